/- Walks: to of boxes and lists of sessions. -/
import Derived.Test.YtjbokkoiicoahaaDoorTy
namespace Go.Av
open Go Go.Proofs
set_option maxRecDepth 100000
set_option maxHeartbeats 4000000
set_option linter.unusedVariables false
set_option linter.unusedSimpArgs false
theorem r_laws_toMail (A : Alg) (hA : A = std) (x : GMail) (hk : ∀ k ∈ zsMail x, k ≤ 1048576) : Real Tryd.prog 31 [.agg (eMail x)] (.agg (eoMail x)) := by
  obtain ⟨x_Uid, x_Flags, x_Text⟩ := x
  refine real_args (args' := [.agg [.int .i64 x_Uid, .int .i64 x_Flags, .str x_Text]]) (by rfl) ?_
  refine real tyOk Tryd.func31 (by kernel_rfl) (afun_of rfl ?_)
  refine go_seq ?_
  refine go_reg ?_
  refine run_aops hA 2 _ _ _ _ (by cbv) ?_
  refine ops_done ?_
  refine go_seq ?_
  refine go_reg ?_
  refine run_aops hA 1 _ _ _ _ (by cbv) ?_
  refine ops_done ?_
  refine go_seq ?_
  refine go_reg ?_
  refine run_aops hA 4 _ _ _ _ (by cbv) ?_
  refine ops_done ?_
  refine go_seq ?_
  refine go_reg ?_
  refine run_aops hA 4 _ _ _ _ (by cbv) ?_
  refine ops_done ?_
  refine go_seq ?_
  refine go_reg ?_
  refine run_aops hA 4 _ _ _ _ (by cbv) ?_
  refine ops_done ?_
  refine go_seq ?_
  refine go_reg ?_
  refine run_aops hA 2 _ _ _ _ (by cbv) ?_
  refine ops_done ?_
  refine go_ret ⟨_, by cbv, ?_⟩
  show _ = (PV.agg [.int .i64 x_Uid, .int .i64 x_Flags, .str x_Text])
  rfl

def S19_1 (p0 : List (List PV)) (p1 : Int) (p2 : List (List PV)) : St := { sl := [.sl 3 p0, .bad, .bad, .own 7, .int .i64 p1, .bad, .bad, .bad, .bad, .bad, .bad, .bad, .bad, .bad, .bad, .bad, .bad, .bad, .bad, .bad, .bad, .bad, .bad], bl := [(7, ⟨.arr, 3, p2⟩)] }
theorem r_laws_toMailS (A : Alg) (hA : A = std) (xs : List GMail) (hk : ∀ k ∈ zsMailS xs, k ≤ 1048576) : Real Tryd.prog 19 [.sl 3 (List.map eMail xs)] (.ow 3 (List.map eoMail xs)) := by
  obtain ⟨xs_r, hxs_r⟩ : ∃ r, r = xs.map eMail := ⟨_, rfl⟩
  have lxs_r : A.rlen xs_r = (List.length xs : Int) := rlen_map hA hxs_r
  refine real_args (args' := [.sl 3 xs_r]) (by subst hxs_r; rfl) ?_
  have hlen : List.length xs ≤ 1048576 := hk _ (by simp [zsMailS])
  refine real tyOk Tryd.func19 (by kernel_rfl) (afun_of rfl ?_)
  refine go_seq ?_
  refine go_reg ?_
  refine run_aops hA 1 _ _ _ _ (by cbv) ?_
  refine ops_done ?_
  refine go_seq ?_
  refine go_reg ?_
  refine run_aops hA 2 _ _ _ _ (by cbv) ?_
  obtain ⟨rm, hrm⟩ : ∃ r : List (List PV), r = List.replicate (Int.toNat (A.rlen xs_r)) [.int .i64 0, .int .i64 0, .str ByteArray.empty] := ⟨_, rfl⟩
  have hn0 : (0 : Int) ≤ A.rlen xs_r := by omega
  have hmax : A.rlen xs_r * 32 ≤ 140737488355328 := by omega
  refine ops_step rfl rfl (mk_arr rfl rfl rfl rfl rfl rfl hn0 hmax (by decide) (by decide) rfl hrm) ?_
  refine run_aops hA 1 _ _ _ _ (by cbv) ?_
  refine ops_done ?_
  refine go_seq ?_
  refine go_seq ?_
  refine go_reg ?_
  refine run_aops hA 1 _ _ _ _ (by cbv) ?_
  refine ops_done ?_
  refine go_block ?_
  refine go_loopE (fun σ m => ∃ (i : Nat) (ro : List (List PV)) (n4 : Int), σ = (S19_1 xs_r n4 ro) ∧ (n4 = (i : Int) ∧ i ≤ List.length xs ∧ ro = fill eoMail [.int .i64 0, .int .i64 0, .str ByteArray.empty] xs i) ∧ m = List.length xs - i) _ [] [0, 3, 4] [7] (S19_1 xs_r 0 rm) rfl (by cbv) ⟨0, rm, 0, rfl, ?_, rfl⟩ (fun σ m hI => ?_)
  · skip
    exact ⟨rfl, Nat.zero_le _, by rw [hrm, fill_zero, lxs_r]; rfl⟩
  obtain ⟨i, ro, n4, rfl, ⟨hn4, hi, hro⟩, rfl⟩ := hI
  refine go_seq ?_
  refine go_seq ?_
  refine go_reg ?_
  refine run_aops hA 4 _ _ _ _ (by cbv) ?_
  refine ops_done ?_
  refine go_cond rfl (fun c1 => ?_) (fun c1 => ?_)
  · skip
    have ec1 : n4 < (A.rlen xs_r) := lss_t hA c1
    refine go_skip ?_
    refine go_seq ?_
    refine go_block ?_
    refine go_reg ?_
    refine run_aops hA 4 _ _ _ _ (by cbv) ?_
    have h0x2 : (0 : Int) ≤ n4 := by
      omega
    have hlx2 : (Int.toNat n4) < List.length xs := by
      omega
    obtain ⟨x2, hx2⟩ : ∃ x, (xs)[(Int.toNat n4)]? = some x := ⟨_, List.getElem?_eq_getElem hlx2⟩
    have hmx2 := List.mem_of_getElem? hx2
    obtain ⟨x2_Uid, x2_Flags, x2_Text⟩ := x2
    have hrx2 : xs_r[(Int.toNat n4)]? = some [.int .i64 x2_Uid, .int .i64 x2_Flags, .str x2_Text] := by
      exact map_at eMail hxs_r hx2
    have hkx := fun (k : Nat) h => hk k (List.mem_cons_of_mem _ (List.mem_flatMap.2 ⟨_, hmx2, h⟩))
    refine ops_step rfl rfl (idx_sl rfl rfl rfl rfl rfl h0x2 rfl hrx2) ?_
    refine run_aops hA 1 _ _ _ _ (by cbv) ?_
    have hc4 : Real Tryd.prog 31 [.agg [.int .i64 x2_Uid, .int .i64 x2_Flags, .str x2_Text]] (.agg [.int .i64 x2_Uid, .int .i64 x2_Flags, .str x2_Text]) := by exact r_laws_toMail A hA (⟨x2_Uid, x2_Flags, x2_Text⟩ : GMail) hkx
    refine ops_callV rfl rfl (by cbv) (by cbv) hc4 (.inr rfl) (by cbv) ?_
    have hlo : n4 < (List.length ro : Int) := by
      rw [hro, fill_len _ _ _ hi]; omega
    refine ops_step rfl rfl (idx_own rfl rfl rfl rfl rfl rfl (by omega) hlo rfl) ?_
    have hix2 := hx2
    rw [hn4] at hix2
    have hix2 : xs[i]? = some _ := hix2
    have hz : ro[Int.toNat n4]? = some [.int .i64 0, .int .i64 0, .str ByteArray.empty] := by
      rw [hro, hn4]; exact fill_at _ _ _ (by omega)
    have hset : fill eoMail [.int .i64 0, .int .i64 0, .str ByteArray.empty] xs (i + 1) = ro.set (Int.toNat n4) [.int .i64 x2_Uid, .int .i64 x2_Flags, .str x2_Text] := by
      rw [hro, hn4]; exact (fill_set eoMail _ xs hix2).symm
    obtain ⟨ro2, hro2⟩ : ∃ r, r = fill eoMail [.int .i64 0, .int .i64 0, .str ByteArray.empty] xs (i + 1) := ⟨_, rfl⟩
    rw [← hro2] at hset
    refine ops_step rfl rfl (sto_arr (r := [.int .i64 0, .int .i64 0, .str ByteArray.empty]) (cs := [.int .i64 x2_Uid, .int .i64 x2_Flags, .str x2_Text]) rfl rfl rfl rfl rfl ⟨_, _, rfl⟩ rfl rfl hz rfl hset) ?_
    refine ops_done ?_
    refine go_reg ?_
    refine run_aops hA 3 _ _ _ _ (by cbv) ?_
    refine ops_done ?_
    refine ⟨(S19_1 xs_r (A.num .add .i64 n4 1) ro2), List.length xs - (i + 1), ?_, by cbv, i + 1, ro2, (A.num .add .i64 n4 1), rfl, ?_, rfl⟩
    · skip
      omega
    · skip
      exact ⟨by rw [add_i64 hA (by omega) (by omega)]; omega, by omega, hro2⟩
  · skip
    have ec1 : (A.rlen xs_r) ≤ n4 := lss_f hA c1
    refine go_exit ⟨fun _ => ?_, fun h => absurd rfl h⟩
    refine go_seq ?_
    refine go_reg ?_
    refine run_aops hA 2 _ _ _ _ (by cbv) ?_
    refine ops_done ?_
    refine go_ret ⟨_, by cbv, ?_⟩
    show _ = (PV.ow 3 ro)
    refine congrArg (PV.ow 3) ?_
    rw [hro, fill_all _ _ _ (by omega)]

theorem r_laws_toBox (A : Alg) (hA : A = std) (x : GBox) (hk : ∀ k ∈ zsBox x, k ≤ 1048576) : Real Tryd.prog 7 [.agg (eBox x)] (.agg (eoBox x)) := by
  obtain ⟨x_Valid, x_User, x_Name, x_Next, x_Mails⟩ := x
  obtain ⟨x_Mails_r, hx_Mails_r⟩ : ∃ r, r = x_Mails.map eMail := ⟨_, rfl⟩
  have lx_Mails_r : A.rlen x_Mails_r = (List.length x_Mails : Int) := rlen_map hA hx_Mails_r
  refine real_args (args' := [.agg [.int .i64 x_Valid, .str x_User, .str x_Name, .int .i64 x_Next, .sl 3 x_Mails_r]]) (by subst hx_Mails_r; rfl) ?_
  refine real tyOk Tryd.func7 (by kernel_rfl) (afun_of rfl ?_)
  refine go_seq ?_
  refine go_reg ?_
  refine run_aops hA 2 _ _ _ _ (by cbv) ?_
  refine ops_done ?_
  refine go_seq ?_
  refine go_reg ?_
  refine run_aops hA 1 _ _ _ _ (by cbv) ?_
  refine ops_done ?_
  refine go_seq ?_
  refine go_reg ?_
  refine run_aops hA 4 _ _ _ _ (by cbv) ?_
  refine ops_done ?_
  refine go_seq ?_
  refine go_reg ?_
  refine run_aops hA 4 _ _ _ _ (by cbv) ?_
  refine ops_done ?_
  refine go_seq ?_
  refine go_reg ?_
  refine run_aops hA 4 _ _ _ _ (by cbv) ?_
  refine ops_done ?_
  refine go_seq ?_
  refine go_reg ?_
  refine run_aops hA 4 _ _ _ _ (by cbv) ?_
  refine ops_done ?_
  refine go_seq ?_
  refine go_reg ?_
  refine run_aops hA 2 _ _ _ _ (by cbv) ?_
  obtain ⟨v18_1, hv18_1, hc2⟩ : ∃ (v18_1 : List (List PV)), v18_1 = List.map eoMail x_Mails ∧ Real Tryd.prog 19 [.sl 3 x_Mails_r] (.ow 3 v18_1) := ⟨_, rfl, by subst hx_Mails_r; exact r_laws_toMailS A hA x_Mails (fun k h => hk k (by simp only [zsBox, List.mem_append]; simp only [h, true_or, or_true]))⟩
  have lv18_1 : A.rlen v18_1 = (List.length x_Mails : Int) := rlen_map hA hv18_1
  refine ops_callV rfl rfl (by cbv) (by cbv) hc2 (.inr rfl) (by cbv) ?_
  refine run_aops hA 2 _ _ _ _ (by cbv) ?_
  refine ops_done ?_
  refine go_seq ?_
  refine go_reg ?_
  refine run_aops hA 2 _ _ _ _ (by cbv) ?_
  refine ops_done ?_
  refine go_ret ⟨_, by cbv, ?_⟩
  show _ = (PV.agg [.int .i64 x_Valid, .str x_User, .str x_Name, .int .i64 x_Next, .ow 3 v18_1])
  subst hv18_1
  rfl

def S52_1 (p0 : List (List PV)) (p1 : Int) (p2 : List (List PV)) : St := { sl := [.sl 1 p0, .bad, .bad, .own 7, .int .i64 p1, .bad, .bad, .bad, .bad, .bad, .bad, .bad, .bad, .bad, .bad, .bad, .bad, .bad, .bad, .bad, .bad, .bad], bl := [(7, ⟨.arr, 1, p2⟩)] }
theorem r_laws_toStringS (A : Alg) (hA : A = std) (xs : List ByteArray) (hk : ∀ k ∈ zsStringS xs, k ≤ 1048576) : Real Tryd.prog 52 [.sl 1 (List.map eString xs)] (.ow 1 (List.map eString xs)) := by
  obtain ⟨xs_r, hxs_r⟩ : ∃ r, r = xs.map eString := ⟨_, rfl⟩
  have lxs_r : A.rlen xs_r = (List.length xs : Int) := rlen_map hA hxs_r
  refine real_args (args' := [.sl 1 xs_r]) (by subst hxs_r; rfl) ?_
  have hlen : List.length xs ≤ 1048576 := hk _ (by simp [zsStringS])
  refine real tyOk Tryd.func52 (by kernel_rfl) (afun_of rfl ?_)
  refine go_seq ?_
  refine go_reg ?_
  refine run_aops hA 1 _ _ _ _ (by cbv) ?_
  refine ops_done ?_
  refine go_seq ?_
  refine go_reg ?_
  refine run_aops hA 2 _ _ _ _ (by cbv) ?_
  obtain ⟨rm, hrm⟩ : ∃ r : List (List PV), r = List.replicate (Int.toNat (A.rlen xs_r)) [.str ByteArray.empty] := ⟨_, rfl⟩
  have hn0 : (0 : Int) ≤ A.rlen xs_r := by omega
  have hmax : A.rlen xs_r * 16 ≤ 140737488355328 := by omega
  refine ops_step rfl rfl (mk_arr rfl rfl rfl rfl rfl rfl hn0 hmax (by decide) (by decide) rfl hrm) ?_
  refine run_aops hA 1 _ _ _ _ (by cbv) ?_
  refine ops_done ?_
  refine go_seq ?_
  refine go_seq ?_
  refine go_reg ?_
  refine run_aops hA 1 _ _ _ _ (by cbv) ?_
  refine ops_done ?_
  refine go_block ?_
  refine go_loopE (fun σ m => ∃ (i : Nat) (ro : List (List PV)) (n4 : Int), σ = (S52_1 xs_r n4 ro) ∧ (n4 = (i : Int) ∧ i ≤ List.length xs ∧ ro = fill eString [.str ByteArray.empty] xs i) ∧ m = List.length xs - i) _ [] [0, 3, 4] [7] (S52_1 xs_r 0 rm) rfl (by cbv) ⟨0, rm, 0, rfl, ?_, rfl⟩ (fun σ m hI => ?_)
  · skip
    exact ⟨rfl, Nat.zero_le _, by rw [hrm, fill_zero, lxs_r]; rfl⟩
  obtain ⟨i, ro, n4, rfl, ⟨hn4, hi, hro⟩, rfl⟩ := hI
  refine go_seq ?_
  refine go_seq ?_
  refine go_reg ?_
  refine run_aops hA 4 _ _ _ _ (by cbv) ?_
  refine ops_done ?_
  refine go_cond rfl (fun c1 => ?_) (fun c1 => ?_)
  · skip
    have ec1 : n4 < (A.rlen xs_r) := lss_t hA c1
    refine go_skip ?_
    refine go_seq ?_
    refine go_block ?_
    refine go_reg ?_
    refine run_aops hA 4 _ _ _ _ (by cbv) ?_
    have h0x2 : (0 : Int) ≤ n4 := by
      omega
    have hlx2 : (Int.toNat n4) < List.length xs := by
      omega
    obtain ⟨x2, hx2⟩ : ∃ x, (xs)[(Int.toNat n4)]? = some x := ⟨_, List.getElem?_eq_getElem hlx2⟩
    have hmx2 := List.mem_of_getElem? hx2
    have hrx2 : xs_r[(Int.toNat n4)]? = some [.str x2] := by
      exact map_at eString hxs_r hx2
    refine ops_step rfl rfl (idx_sl rfl rfl rfl rfl rfl h0x2 rfl hrx2) ?_
    refine run_aops hA 1 _ _ _ _ (by cbv) ?_
    have hlo : n4 < (List.length ro : Int) := by
      rw [hro, fill_len _ _ _ hi]; omega
    refine ops_step rfl rfl (idx_own rfl rfl rfl rfl rfl rfl (by omega) hlo rfl) ?_
    have hix2 := hx2
    rw [hn4] at hix2
    have hix2 : xs[i]? = some _ := hix2
    have hz : ro[Int.toNat n4]? = some [.str ByteArray.empty] := by
      rw [hro, hn4]; exact fill_at _ _ _ (by omega)
    have hset : fill eString [.str ByteArray.empty] xs (i + 1) = ro.set (Int.toNat n4) [.str x2] := by
      rw [hro, hn4]; exact (fill_set eString _ xs hix2).symm
    obtain ⟨ro2, hro2⟩ : ∃ r, r = fill eString [.str ByteArray.empty] xs (i + 1) := ⟨_, rfl⟩
    rw [← hro2] at hset
    refine ops_step rfl rfl (sto_arr (r := [.str ByteArray.empty]) (cs := [.str x2]) rfl rfl rfl rfl rfl ⟨_, _, rfl⟩ rfl rfl hz rfl hset) ?_
    refine ops_done ?_
    refine go_reg ?_
    refine run_aops hA 3 _ _ _ _ (by cbv) ?_
    refine ops_done ?_
    refine ⟨(S52_1 xs_r (A.num .add .i64 n4 1) ro2), List.length xs - (i + 1), ?_, by cbv, i + 1, ro2, (A.num .add .i64 n4 1), rfl, ?_, rfl⟩
    · skip
      omega
    · skip
      exact ⟨by rw [add_i64 hA (by omega) (by omega)]; omega, by omega, hro2⟩
  · skip
    have ec1 : (A.rlen xs_r) ≤ n4 := lss_f hA c1
    refine go_exit ⟨fun _ => ?_, fun h => absurd rfl h⟩
    refine go_seq ?_
    refine go_reg ?_
    refine run_aops hA 2 _ _ _ _ (by cbv) ?_
    refine ops_done ?_
    refine go_ret ⟨_, by cbv, ?_⟩
    show _ = (PV.ow 1 ro)
    refine congrArg (PV.ow 1) ?_
    rw [hro, fill_all _ _ _ (by omega)]

theorem r_laws_toBring (A : Alg) (hA : A = std) (x : GBring) (hk : ∀ k ∈ zsBring x, k ≤ 1048576) : Real Tryd.prog 39 [.agg (eBring x)] (.agg (eoBring x)) := by
  obtain ⟨x_State, x_From, x_To, x_Data⟩ := x
  obtain ⟨x_To_r, hx_To_r⟩ : ∃ r, r = x_To.map eString := ⟨_, rfl⟩
  have lx_To_r : A.rlen x_To_r = (List.length x_To : Int) := rlen_map hA hx_To_r
  obtain ⟨x_Data_r, hx_Data_r⟩ : ∃ r, r = x_Data.map eString := ⟨_, rfl⟩
  have lx_Data_r : A.rlen x_Data_r = (List.length x_Data : Int) := rlen_map hA hx_Data_r
  refine real_args (args' := [.agg [.int .i64 x_State, .str x_From, .sl 1 x_To_r, .sl 1 x_Data_r]]) (by subst hx_To_r hx_Data_r; rfl) ?_
  refine real tyOk Tryd.func39 (by kernel_rfl) (afun_of rfl ?_)
  refine go_seq ?_
  refine go_reg ?_
  refine run_aops hA 2 _ _ _ _ (by cbv) ?_
  refine ops_done ?_
  refine go_seq ?_
  refine go_reg ?_
  refine run_aops hA 1 _ _ _ _ (by cbv) ?_
  refine ops_done ?_
  refine go_seq ?_
  refine go_reg ?_
  refine run_aops hA 4 _ _ _ _ (by cbv) ?_
  refine ops_done ?_
  refine go_seq ?_
  refine go_reg ?_
  refine run_aops hA 4 _ _ _ _ (by cbv) ?_
  refine ops_done ?_
  refine go_seq ?_
  refine go_reg ?_
  refine run_aops hA 2 _ _ _ _ (by cbv) ?_
  obtain ⟨v12_1, hv12_1, hc2⟩ : ∃ (v12_1 : List (List PV)), v12_1 = List.map eString x_To ∧ Real Tryd.prog 52 [.sl 1 x_To_r] (.ow 1 v12_1) := ⟨_, rfl, by subst hx_To_r; exact r_laws_toStringS A hA x_To (fun k h => hk k (by simp only [zsBring, List.mem_append]; simp only [h, true_or, or_true]))⟩
  have lv12_1 : A.rlen v12_1 = (List.length x_To : Int) := rlen_map hA hv12_1
  refine ops_callV rfl rfl (by cbv) (by cbv) hc2 (.inr rfl) (by cbv) ?_
  refine run_aops hA 2 _ _ _ _ (by cbv) ?_
  refine ops_done ?_
  refine go_seq ?_
  refine go_reg ?_
  refine run_aops hA 2 _ _ _ _ (by cbv) ?_
  obtain ⟨v16_3, hv16_3, hc4⟩ : ∃ (v16_3 : List (List PV)), v16_3 = List.map eString x_Data ∧ Real Tryd.prog 52 [.sl 1 x_Data_r] (.ow 1 v16_3) := ⟨_, rfl, by subst hx_Data_r; exact r_laws_toStringS A hA x_Data (fun k h => hk k (by simp only [zsBring, List.mem_append]; simp only [h, true_or, or_true]))⟩
  have lv16_3 : A.rlen v16_3 = (List.length x_Data : Int) := rlen_map hA hv16_3
  refine ops_callV rfl rfl (by cbv) (by cbv) hc4 (.inr rfl) (by cbv) ?_
  refine run_aops hA 2 _ _ _ _ (by cbv) ?_
  refine ops_done ?_
  refine go_seq ?_
  refine go_reg ?_
  refine run_aops hA 2 _ _ _ _ (by cbv) ?_
  refine ops_done ?_
  refine go_ret ⟨_, by cbv, ?_⟩
  show _ = (PV.agg [.int .i64 x_State, .str x_From, .ow 1 v12_1, .ow 1 v16_3])
  subst hv12_1 hv16_3
  rfl

def S53_1 (p0 : List (List PV)) (p1 : Int) (p2 : List (List PV)) : St := { sl := [.sl 1 p0, .bad, .bad, .own 7, .int .i64 p1, .bad, .bad, .bad, .bad, .bad, .bad, .bad, .bad, .bad, .bad, .bad, .bad, .bad, .bad, .bad, .bad, .bad], bl := [(7, ⟨.arr, 1, p2⟩)] }
theorem r_laws_toBoolS (A : Alg) (hA : A = std) (xs : List Bool) (hk : ∀ k ∈ zsBoolS xs, k ≤ 1048576) : Real Tryd.prog 53 [.sl 1 (List.map eBool xs)] (.ow 1 (List.map eBool xs)) := by
  obtain ⟨xs_r, hxs_r⟩ : ∃ r, r = xs.map eBool := ⟨_, rfl⟩
  have lxs_r : A.rlen xs_r = (List.length xs : Int) := rlen_map hA hxs_r
  refine real_args (args' := [.sl 1 xs_r]) (by subst hxs_r; rfl) ?_
  have hlen : List.length xs ≤ 1048576 := hk _ (by simp [zsBoolS])
  refine real tyOk Tryd.func53 (by kernel_rfl) (afun_of rfl ?_)
  refine go_seq ?_
  refine go_reg ?_
  refine run_aops hA 1 _ _ _ _ (by cbv) ?_
  refine ops_done ?_
  refine go_seq ?_
  refine go_reg ?_
  refine run_aops hA 2 _ _ _ _ (by cbv) ?_
  obtain ⟨rm, hrm⟩ : ∃ r : List (List PV), r = List.replicate (Int.toNat (A.rlen xs_r)) [.bool false] := ⟨_, rfl⟩
  have hn0 : (0 : Int) ≤ A.rlen xs_r := by omega
  have hmax : A.rlen xs_r * 1 ≤ 140737488355328 := by omega
  refine ops_step rfl rfl (mk_arr rfl rfl rfl rfl rfl rfl hn0 hmax (by decide) (by decide) rfl hrm) ?_
  refine run_aops hA 1 _ _ _ _ (by cbv) ?_
  refine ops_done ?_
  refine go_seq ?_
  refine go_seq ?_
  refine go_reg ?_
  refine run_aops hA 1 _ _ _ _ (by cbv) ?_
  refine ops_done ?_
  refine go_block ?_
  refine go_loopE (fun σ m => ∃ (i : Nat) (ro : List (List PV)) (n4 : Int), σ = (S53_1 xs_r n4 ro) ∧ (n4 = (i : Int) ∧ i ≤ List.length xs ∧ ro = fill eBool [.bool false] xs i) ∧ m = List.length xs - i) _ [] [0, 3, 4] [7] (S53_1 xs_r 0 rm) rfl (by cbv) ⟨0, rm, 0, rfl, ?_, rfl⟩ (fun σ m hI => ?_)
  · skip
    exact ⟨rfl, Nat.zero_le _, by rw [hrm, fill_zero, lxs_r]; rfl⟩
  obtain ⟨i, ro, n4, rfl, ⟨hn4, hi, hro⟩, rfl⟩ := hI
  refine go_seq ?_
  refine go_seq ?_
  refine go_reg ?_
  refine run_aops hA 4 _ _ _ _ (by cbv) ?_
  refine ops_done ?_
  refine go_cond rfl (fun c1 => ?_) (fun c1 => ?_)
  · skip
    have ec1 : n4 < (A.rlen xs_r) := lss_t hA c1
    refine go_skip ?_
    refine go_seq ?_
    refine go_block ?_
    refine go_reg ?_
    refine run_aops hA 4 _ _ _ _ (by cbv) ?_
    have h0x2 : (0 : Int) ≤ n4 := by
      omega
    have hlx2 : (Int.toNat n4) < List.length xs := by
      omega
    obtain ⟨x2, hx2⟩ : ∃ x, (xs)[(Int.toNat n4)]? = some x := ⟨_, List.getElem?_eq_getElem hlx2⟩
    have hmx2 := List.mem_of_getElem? hx2
    have hrx2 : xs_r[(Int.toNat n4)]? = some [.bool x2] := by
      exact map_at eBool hxs_r hx2
    refine ops_step rfl rfl (idx_sl rfl rfl rfl rfl rfl h0x2 rfl hrx2) ?_
    refine run_aops hA 1 _ _ _ _ (by cbv) ?_
    have hlo : n4 < (List.length ro : Int) := by
      rw [hro, fill_len _ _ _ hi]; omega
    refine ops_step rfl rfl (idx_own rfl rfl rfl rfl rfl rfl (by omega) hlo rfl) ?_
    have hix2 := hx2
    rw [hn4] at hix2
    have hix2 : xs[i]? = some _ := hix2
    have hz : ro[Int.toNat n4]? = some [.bool false] := by
      rw [hro, hn4]; exact fill_at _ _ _ (by omega)
    have hset : fill eBool [.bool false] xs (i + 1) = ro.set (Int.toNat n4) [.bool x2] := by
      rw [hro, hn4]; exact (fill_set eBool _ xs hix2).symm
    obtain ⟨ro2, hro2⟩ : ∃ r, r = fill eBool [.bool false] xs (i + 1) := ⟨_, rfl⟩
    rw [← hro2] at hset
    refine ops_step rfl rfl (sto_arr (r := [.bool false]) (cs := [.bool x2]) rfl rfl rfl rfl rfl ⟨_, _, rfl⟩ rfl rfl hz rfl hset) ?_
    refine ops_done ?_
    refine go_reg ?_
    refine run_aops hA 3 _ _ _ _ (by cbv) ?_
    refine ops_done ?_
    refine ⟨(S53_1 xs_r (A.num .add .i64 n4 1) ro2), List.length xs - (i + 1), ?_, by cbv, i + 1, ro2, (A.num .add .i64 n4 1), rfl, ?_, rfl⟩
    · skip
      omega
    · skip
      exact ⟨by rw [add_i64 hA (by omega) (by omega)]; omega, by omega, hro2⟩
  · skip
    have ec1 : (A.rlen xs_r) ≤ n4 := lss_f hA c1
    refine go_exit ⟨fun _ => ?_, fun h => absurd rfl h⟩
    refine go_seq ?_
    refine go_reg ?_
    refine run_aops hA 2 _ _ _ _ (by cbv) ?_
    refine ops_done ?_
    refine go_ret ⟨_, by cbv, ?_⟩
    show _ = (PV.ow 1 ro)
    refine congrArg (PV.ow 1) ?_
    rw [hro, fill_all _ _ _ (by omega)]

theorem r_laws_toFetch (A : Alg) (hA : A = std) (x : GFetch) (hk : ∀ k ∈ zsFetch x, k ≤ 1048576) : Real Tryd.prog 40 [.agg (eFetch x)] (.agg (eoFetch x)) := by
  obtain ⟨x_State, x_User, x_Mails, x_Gone⟩ := x
  obtain ⟨x_Mails_r, hx_Mails_r⟩ : ∃ r, r = x_Mails.map eMail := ⟨_, rfl⟩
  have lx_Mails_r : A.rlen x_Mails_r = (List.length x_Mails : Int) := rlen_map hA hx_Mails_r
  obtain ⟨x_Gone_r, hx_Gone_r⟩ : ∃ r, r = x_Gone.map eBool := ⟨_, rfl⟩
  have lx_Gone_r : A.rlen x_Gone_r = (List.length x_Gone : Int) := rlen_map hA hx_Gone_r
  refine real_args (args' := [.agg [.int .i64 x_State, .str x_User, .sl 3 x_Mails_r, .sl 1 x_Gone_r]]) (by subst hx_Mails_r hx_Gone_r; rfl) ?_
  refine real tyOk Tryd.func40 (by kernel_rfl) (afun_of rfl ?_)
  refine go_seq ?_
  refine go_reg ?_
  refine run_aops hA 2 _ _ _ _ (by cbv) ?_
  refine ops_done ?_
  refine go_seq ?_
  refine go_reg ?_
  refine run_aops hA 1 _ _ _ _ (by cbv) ?_
  refine ops_done ?_
  refine go_seq ?_
  refine go_reg ?_
  refine run_aops hA 4 _ _ _ _ (by cbv) ?_
  refine ops_done ?_
  refine go_seq ?_
  refine go_reg ?_
  refine run_aops hA 4 _ _ _ _ (by cbv) ?_
  refine ops_done ?_
  refine go_seq ?_
  refine go_reg ?_
  refine run_aops hA 2 _ _ _ _ (by cbv) ?_
  obtain ⟨v12_1, hv12_1, hc2⟩ : ∃ (v12_1 : List (List PV)), v12_1 = List.map eoMail x_Mails ∧ Real Tryd.prog 19 [.sl 3 x_Mails_r] (.ow 3 v12_1) := ⟨_, rfl, by subst hx_Mails_r; exact r_laws_toMailS A hA x_Mails (fun k h => hk k (by simp only [zsFetch, List.mem_append]; simp only [h, true_or, or_true]))⟩
  have lv12_1 : A.rlen v12_1 = (List.length x_Mails : Int) := rlen_map hA hv12_1
  refine ops_callV rfl rfl (by cbv) (by cbv) hc2 (.inr rfl) (by cbv) ?_
  refine run_aops hA 2 _ _ _ _ (by cbv) ?_
  refine ops_done ?_
  refine go_seq ?_
  refine go_reg ?_
  refine run_aops hA 2 _ _ _ _ (by cbv) ?_
  obtain ⟨v16_3, hv16_3, hc4⟩ : ∃ (v16_3 : List (List PV)), v16_3 = List.map eBool x_Gone ∧ Real Tryd.prog 53 [.sl 1 x_Gone_r] (.ow 1 v16_3) := ⟨_, rfl, by subst hx_Gone_r; exact r_laws_toBoolS A hA x_Gone (fun k h => hk k (by simp only [zsFetch, List.mem_append]; simp only [h, true_or, or_true]))⟩
  have lv16_3 : A.rlen v16_3 = (List.length x_Gone : Int) := rlen_map hA hv16_3
  refine ops_callV rfl rfl (by cbv) (by cbv) hc4 (.inr rfl) (by cbv) ?_
  refine run_aops hA 2 _ _ _ _ (by cbv) ?_
  refine ops_done ?_
  refine go_seq ?_
  refine go_reg ?_
  refine run_aops hA 2 _ _ _ _ (by cbv) ?_
  refine ops_done ?_
  refine go_ret ⟨_, by cbv, ?_⟩
  show _ = (PV.agg [.int .i64 x_State, .str x_User, .ow 3 v12_1, .ow 1 v16_3])
  subst hv12_1 hv16_3
  rfl

def S54_1 (p0 : List (List PV)) (p1 : Int) (p2 : List (List PV)) : St := { sl := [.sl 1 p0, .bad, .bad, .own 7, .int .i64 p1, .bad, .bad, .bad, .bad, .bad, .bad, .bad, .bad, .bad, .bad, .bad, .bad, .bad, .bad, .bad, .bad, .bad], bl := [(7, ⟨.arr, 1, p2⟩)] }
theorem r_laws_toIntS (A : Alg) (hA : A = std) (xs : List Int) (hk : ∀ k ∈ zsIntS xs, k ≤ 1048576) : Real Tryd.prog 54 [.sl 1 (List.map eInt xs)] (.ow 1 (List.map eInt xs)) := by
  obtain ⟨xs_r, hxs_r⟩ : ∃ r, r = xs.map eInt := ⟨_, rfl⟩
  have lxs_r : A.rlen xs_r = (List.length xs : Int) := rlen_map hA hxs_r
  refine real_args (args' := [.sl 1 xs_r]) (by subst hxs_r; rfl) ?_
  have hlen : List.length xs ≤ 1048576 := hk _ (by simp [zsIntS])
  refine real tyOk Tryd.func54 (by kernel_rfl) (afun_of rfl ?_)
  refine go_seq ?_
  refine go_reg ?_
  refine run_aops hA 1 _ _ _ _ (by cbv) ?_
  refine ops_done ?_
  refine go_seq ?_
  refine go_reg ?_
  refine run_aops hA 2 _ _ _ _ (by cbv) ?_
  obtain ⟨rm, hrm⟩ : ∃ r : List (List PV), r = List.replicate (Int.toNat (A.rlen xs_r)) [.int .i64 0] := ⟨_, rfl⟩
  have hn0 : (0 : Int) ≤ A.rlen xs_r := by omega
  have hmax : A.rlen xs_r * 8 ≤ 140737488355328 := by omega
  refine ops_step rfl rfl (mk_arr rfl rfl rfl rfl rfl rfl hn0 hmax (by decide) (by decide) rfl hrm) ?_
  refine run_aops hA 1 _ _ _ _ (by cbv) ?_
  refine ops_done ?_
  refine go_seq ?_
  refine go_seq ?_
  refine go_reg ?_
  refine run_aops hA 1 _ _ _ _ (by cbv) ?_
  refine ops_done ?_
  refine go_block ?_
  refine go_loopE (fun σ m => ∃ (i : Nat) (ro : List (List PV)) (n4 : Int), σ = (S54_1 xs_r n4 ro) ∧ (n4 = (i : Int) ∧ i ≤ List.length xs ∧ ro = fill eInt [.int .i64 0] xs i) ∧ m = List.length xs - i) _ [] [0, 3, 4] [7] (S54_1 xs_r 0 rm) rfl (by cbv) ⟨0, rm, 0, rfl, ?_, rfl⟩ (fun σ m hI => ?_)
  · skip
    exact ⟨rfl, Nat.zero_le _, by rw [hrm, fill_zero, lxs_r]; rfl⟩
  obtain ⟨i, ro, n4, rfl, ⟨hn4, hi, hro⟩, rfl⟩ := hI
  refine go_seq ?_
  refine go_seq ?_
  refine go_reg ?_
  refine run_aops hA 4 _ _ _ _ (by cbv) ?_
  refine ops_done ?_
  refine go_cond rfl (fun c1 => ?_) (fun c1 => ?_)
  · skip
    have ec1 : n4 < (A.rlen xs_r) := lss_t hA c1
    refine go_skip ?_
    refine go_seq ?_
    refine go_block ?_
    refine go_reg ?_
    refine run_aops hA 4 _ _ _ _ (by cbv) ?_
    have h0x2 : (0 : Int) ≤ n4 := by
      omega
    have hlx2 : (Int.toNat n4) < List.length xs := by
      omega
    obtain ⟨x2, hx2⟩ : ∃ x, (xs)[(Int.toNat n4)]? = some x := ⟨_, List.getElem?_eq_getElem hlx2⟩
    have hmx2 := List.mem_of_getElem? hx2
    have hrx2 : xs_r[(Int.toNat n4)]? = some [.int .i64 x2] := by
      exact map_at eInt hxs_r hx2
    refine ops_step rfl rfl (idx_sl rfl rfl rfl rfl rfl h0x2 rfl hrx2) ?_
    refine run_aops hA 1 _ _ _ _ (by cbv) ?_
    have hlo : n4 < (List.length ro : Int) := by
      rw [hro, fill_len _ _ _ hi]; omega
    refine ops_step rfl rfl (idx_own rfl rfl rfl rfl rfl rfl (by omega) hlo rfl) ?_
    have hix2 := hx2
    rw [hn4] at hix2
    have hix2 : xs[i]? = some _ := hix2
    have hz : ro[Int.toNat n4]? = some [.int .i64 0] := by
      rw [hro, hn4]; exact fill_at _ _ _ (by omega)
    have hset : fill eInt [.int .i64 0] xs (i + 1) = ro.set (Int.toNat n4) [.int .i64 x2] := by
      rw [hro, hn4]; exact (fill_set eInt _ xs hix2).symm
    obtain ⟨ro2, hro2⟩ : ∃ r, r = fill eInt [.int .i64 0] xs (i + 1) := ⟨_, rfl⟩
    rw [← hro2] at hset
    refine ops_step rfl rfl (sto_arr (r := [.int .i64 0]) (cs := [.int .i64 x2]) rfl rfl rfl rfl rfl ⟨_, _, rfl⟩ rfl rfl hz rfl hset) ?_
    refine ops_done ?_
    refine go_reg ?_
    refine run_aops hA 3 _ _ _ _ (by cbv) ?_
    refine ops_done ?_
    refine ⟨(S54_1 xs_r (A.num .add .i64 n4 1) ro2), List.length xs - (i + 1), ?_, by cbv, i + 1, ro2, (A.num .add .i64 n4 1), rfl, ?_, rfl⟩
    · skip
      omega
    · skip
      exact ⟨by rw [add_i64 hA (by omega) (by omega)]; omega, by omega, hro2⟩
  · skip
    have ec1 : (A.rlen xs_r) ≤ n4 := lss_f hA c1
    refine go_exit ⟨fun _ => ?_, fun h => absurd rfl h⟩
    refine go_seq ?_
    refine go_reg ?_
    refine run_aops hA 2 _ _ _ _ (by cbv) ?_
    refine ops_done ?_
    refine go_ret ⟨_, by cbv, ?_⟩
    show _ = (PV.ow 1 ro)
    refine congrArg (PV.ow 1) ?_
    rw [hro, fill_all _ _ _ (by omega)]

theorem r_laws_toLook (A : Alg) (hA : A = std) (x : GLook) (hk : ∀ k ∈ zsLook x, k ≤ 1048576) : Real Tryd.prog 41 [.agg (eLook x)] (.agg (eoLook x)) := by
  obtain ⟨x_State, x_User, x_Box, x_Valid, x_Uids⟩ := x
  obtain ⟨x_Uids_r, hx_Uids_r⟩ : ∃ r, r = x_Uids.map eInt := ⟨_, rfl⟩
  have lx_Uids_r : A.rlen x_Uids_r = (List.length x_Uids : Int) := rlen_map hA hx_Uids_r
  refine real_args (args' := [.agg [.int .i64 x_State, .str x_User, .str x_Box, .int .i64 x_Valid, .sl 1 x_Uids_r]]) (by subst hx_Uids_r; rfl) ?_
  refine real tyOk Tryd.func41 (by kernel_rfl) (afun_of rfl ?_)
  refine go_seq ?_
  refine go_reg ?_
  refine run_aops hA 2 _ _ _ _ (by cbv) ?_
  refine ops_done ?_
  refine go_seq ?_
  refine go_reg ?_
  refine run_aops hA 1 _ _ _ _ (by cbv) ?_
  refine ops_done ?_
  refine go_seq ?_
  refine go_reg ?_
  refine run_aops hA 4 _ _ _ _ (by cbv) ?_
  refine ops_done ?_
  refine go_seq ?_
  refine go_reg ?_
  refine run_aops hA 4 _ _ _ _ (by cbv) ?_
  refine ops_done ?_
  refine go_seq ?_
  refine go_reg ?_
  refine run_aops hA 4 _ _ _ _ (by cbv) ?_
  refine ops_done ?_
  refine go_seq ?_
  refine go_reg ?_
  refine run_aops hA 4 _ _ _ _ (by cbv) ?_
  refine ops_done ?_
  refine go_seq ?_
  refine go_reg ?_
  refine run_aops hA 2 _ _ _ _ (by cbv) ?_
  obtain ⟨v18_1, hv18_1, hc2⟩ : ∃ (v18_1 : List (List PV)), v18_1 = List.map eInt x_Uids ∧ Real Tryd.prog 54 [.sl 1 x_Uids_r] (.ow 1 v18_1) := ⟨_, rfl, by subst hx_Uids_r; exact r_laws_toIntS A hA x_Uids (fun k h => hk k (by simp only [zsLook, List.mem_append]; simp only [h, true_or, or_true]))⟩
  have lv18_1 : A.rlen v18_1 = (List.length x_Uids : Int) := rlen_map hA hv18_1
  refine ops_callV rfl rfl (by cbv) (by cbv) hc2 (.inr rfl) (by cbv) ?_
  refine run_aops hA 2 _ _ _ _ (by cbv) ?_
  refine ops_done ?_
  refine go_seq ?_
  refine go_reg ?_
  refine run_aops hA 2 _ _ _ _ (by cbv) ?_
  refine ops_done ?_
  refine go_ret ⟨_, by cbv, ?_⟩
  show _ = (PV.agg [.int .i64 x_State, .str x_User, .str x_Box, .int .i64 x_Valid, .ow 1 v18_1])
  subst hv18_1
  rfl

theorem r_laws_toSession (A : Alg) (hA : A = std) (x : GSession) (hk : ∀ k ∈ zsSession x, k ≤ 1048576) : Real Tryd.prog 25 [.agg (eSession x)] (.agg (eoSession x)) := by
  obtain ⟨x_Kind, x_In, x_Out, x_Over, ⟨x_Bring_State, x_Bring_From, x_Bring_To, x_Bring_Data⟩, ⟨x_Fetch_State, x_Fetch_User, x_Fetch_Mails, x_Fetch_Gone⟩, ⟨x_Look_State, x_Look_User, x_Look_Box, x_Look_Valid, x_Look_Uids⟩⟩ := x
  obtain ⟨x_Bring_To_r, hx_Bring_To_r⟩ : ∃ r, r = x_Bring_To.map eString := ⟨_, rfl⟩
  have lx_Bring_To_r : A.rlen x_Bring_To_r = (List.length x_Bring_To : Int) := rlen_map hA hx_Bring_To_r
  obtain ⟨x_Bring_Data_r, hx_Bring_Data_r⟩ : ∃ r, r = x_Bring_Data.map eString := ⟨_, rfl⟩
  have lx_Bring_Data_r : A.rlen x_Bring_Data_r = (List.length x_Bring_Data : Int) := rlen_map hA hx_Bring_Data_r
  obtain ⟨x_Fetch_Mails_r, hx_Fetch_Mails_r⟩ : ∃ r, r = x_Fetch_Mails.map eMail := ⟨_, rfl⟩
  have lx_Fetch_Mails_r : A.rlen x_Fetch_Mails_r = (List.length x_Fetch_Mails : Int) := rlen_map hA hx_Fetch_Mails_r
  obtain ⟨x_Fetch_Gone_r, hx_Fetch_Gone_r⟩ : ∃ r, r = x_Fetch_Gone.map eBool := ⟨_, rfl⟩
  have lx_Fetch_Gone_r : A.rlen x_Fetch_Gone_r = (List.length x_Fetch_Gone : Int) := rlen_map hA hx_Fetch_Gone_r
  obtain ⟨x_Look_Uids_r, hx_Look_Uids_r⟩ : ∃ r, r = x_Look_Uids.map eInt := ⟨_, rfl⟩
  have lx_Look_Uids_r : A.rlen x_Look_Uids_r = (List.length x_Look_Uids : Int) := rlen_map hA hx_Look_Uids_r
  refine real_args (args' := [.agg [.int .i64 x_Kind, .str x_In, .str x_Out, .bool x_Over, .int .i64 x_Bring_State, .str x_Bring_From, .sl 1 x_Bring_To_r, .sl 1 x_Bring_Data_r, .int .i64 x_Fetch_State, .str x_Fetch_User, .sl 3 x_Fetch_Mails_r, .sl 1 x_Fetch_Gone_r, .int .i64 x_Look_State, .str x_Look_User, .str x_Look_Box, .int .i64 x_Look_Valid, .sl 1 x_Look_Uids_r]]) (by subst hx_Bring_To_r hx_Bring_Data_r hx_Fetch_Mails_r hx_Fetch_Gone_r hx_Look_Uids_r; rfl) ?_
  refine real tyOk Tryd.func25 (by kernel_rfl) (afun_of rfl ?_)
  refine go_seq ?_
  refine go_reg ?_
  refine run_aops hA 2 _ _ _ _ (by cbv) ?_
  refine ops_done ?_
  refine go_seq ?_
  refine go_reg ?_
  refine run_aops hA 1 _ _ _ _ (by cbv) ?_
  refine ops_done ?_
  refine go_seq ?_
  refine go_reg ?_
  refine run_aops hA 4 _ _ _ _ (by cbv) ?_
  refine ops_done ?_
  refine go_seq ?_
  refine go_reg ?_
  refine run_aops hA 4 _ _ _ _ (by cbv) ?_
  refine ops_done ?_
  refine go_seq ?_
  refine go_reg ?_
  refine run_aops hA 4 _ _ _ _ (by cbv) ?_
  refine ops_done ?_
  refine go_seq ?_
  refine go_reg ?_
  refine run_aops hA 4 _ _ _ _ (by cbv) ?_
  refine ops_done ?_
  refine go_seq ?_
  refine go_reg ?_
  refine run_aops hA 2 _ _ _ _ (by cbv) ?_
  obtain ⟨v18_1_To, v18_1_Data, hv18_1_To, hv18_1_Data, hc2⟩ : ∃ (v18_1_To : List (List PV)) (v18_1_Data : List (List PV)), v18_1_To = List.map eString x_Bring_To ∧ v18_1_Data = List.map eString x_Bring_Data ∧ Real Tryd.prog 39 [.agg [.int .i64 x_Bring_State, .str x_Bring_From, .sl 1 x_Bring_To_r, .sl 1 x_Bring_Data_r]] (.agg [.int .i64 x_Bring_State, .str x_Bring_From, .ow 1 v18_1_To, .ow 1 v18_1_Data]) := ⟨_, _, rfl, rfl, by subst hx_Bring_To_r hx_Bring_Data_r; exact r_laws_toBring A hA (⟨x_Bring_State, x_Bring_From, x_Bring_To, x_Bring_Data⟩ : GBring) (fun k h => hk k (by simp only [zsSession, List.mem_append]; simp only [h, true_or, or_true]))⟩
  have lv18_1_To : A.rlen v18_1_To = (List.length x_Bring_To : Int) := rlen_map hA hv18_1_To
  have lv18_1_Data : A.rlen v18_1_Data = (List.length x_Bring_Data : Int) := rlen_map hA hv18_1_Data
  refine ops_callV rfl rfl (by cbv) (by cbv) hc2 (.inr rfl) (by cbv) ?_
  refine run_aops hA 2 _ _ _ _ (by cbv) ?_
  refine ops_done ?_
  refine go_seq ?_
  refine go_reg ?_
  refine run_aops hA 2 _ _ _ _ (by cbv) ?_
  obtain ⟨v22_3_Mails, v22_3_Gone, hv22_3_Mails, hv22_3_Gone, hc4⟩ : ∃ (v22_3_Mails : List (List PV)) (v22_3_Gone : List (List PV)), v22_3_Mails = List.map eoMail x_Fetch_Mails ∧ v22_3_Gone = List.map eBool x_Fetch_Gone ∧ Real Tryd.prog 40 [.agg [.int .i64 x_Fetch_State, .str x_Fetch_User, .sl 3 x_Fetch_Mails_r, .sl 1 x_Fetch_Gone_r]] (.agg [.int .i64 x_Fetch_State, .str x_Fetch_User, .ow 3 v22_3_Mails, .ow 1 v22_3_Gone]) := ⟨_, _, rfl, rfl, by subst hx_Fetch_Mails_r hx_Fetch_Gone_r; exact r_laws_toFetch A hA (⟨x_Fetch_State, x_Fetch_User, x_Fetch_Mails, x_Fetch_Gone⟩ : GFetch) (fun k h => hk k (by simp only [zsSession, List.mem_append]; simp only [h, true_or, or_true]))⟩
  have lv22_3_Mails : A.rlen v22_3_Mails = (List.length x_Fetch_Mails : Int) := rlen_map hA hv22_3_Mails
  have lv22_3_Gone : A.rlen v22_3_Gone = (List.length x_Fetch_Gone : Int) := rlen_map hA hv22_3_Gone
  refine ops_callV rfl rfl (by cbv) (by cbv) hc4 (.inr rfl) (by cbv) ?_
  refine run_aops hA 2 _ _ _ _ (by cbv) ?_
  refine ops_done ?_
  refine go_seq ?_
  refine go_reg ?_
  refine run_aops hA 2 _ _ _ _ (by cbv) ?_
  obtain ⟨v26_5_Uids, hv26_5_Uids, hc6⟩ : ∃ (v26_5_Uids : List (List PV)), v26_5_Uids = List.map eInt x_Look_Uids ∧ Real Tryd.prog 41 [.agg [.int .i64 x_Look_State, .str x_Look_User, .str x_Look_Box, .int .i64 x_Look_Valid, .sl 1 x_Look_Uids_r]] (.agg [.int .i64 x_Look_State, .str x_Look_User, .str x_Look_Box, .int .i64 x_Look_Valid, .ow 1 v26_5_Uids]) := ⟨_, rfl, by subst hx_Look_Uids_r; exact r_laws_toLook A hA (⟨x_Look_State, x_Look_User, x_Look_Box, x_Look_Valid, x_Look_Uids⟩ : GLook) (fun k h => hk k (by simp only [zsSession, List.mem_append]; simp only [h, true_or, or_true]))⟩
  have lv26_5_Uids : A.rlen v26_5_Uids = (List.length x_Look_Uids : Int) := rlen_map hA hv26_5_Uids
  refine ops_callV rfl rfl (by cbv) (by cbv) hc6 (.inr rfl) (by cbv) ?_
  refine run_aops hA 2 _ _ _ _ (by cbv) ?_
  refine ops_done ?_
  refine go_seq ?_
  refine go_reg ?_
  refine run_aops hA 2 _ _ _ _ (by cbv) ?_
  refine ops_done ?_
  refine go_ret ⟨_, by cbv, ?_⟩
  show _ = (PV.agg [.int .i64 x_Kind, .str x_In, .str x_Out, .bool x_Over, .int .i64 x_Bring_State, .str x_Bring_From, .ow 1 v18_1_To, .ow 1 v18_1_Data, .int .i64 x_Fetch_State, .str x_Fetch_User, .ow 3 v22_3_Mails, .ow 1 v22_3_Gone, .int .i64 x_Look_State, .str x_Look_User, .str x_Look_Box, .int .i64 x_Look_Valid, .ow 1 v26_5_Uids])
  subst hv18_1_To hv18_1_Data hv22_3_Mails hv22_3_Gone hv26_5_Uids
  rfl

def S12_1 (p0 : List (List PV)) (p1 : Int) (p2 : List (List PV)) : St := { sl := [.sl 17 p0, .bad, .bad, .own 7, .int .i64 p1, .bad, .bad, .bad, .bad, .bad, .bad, .bad, .bad, .bad, .bad, .bad, .bad, .bad, .bad, .bad, .bad, .bad, .bad], bl := [(7, ⟨.arr, 17, p2⟩)] }
theorem r_laws_toSessionS (A : Alg) (hA : A = std) (xs : List GSession) (hk : ∀ k ∈ zsSessionS xs, k ≤ 1048576) : Real Tryd.prog 12 [.sl 17 (List.map eSession xs)] (.ow 17 (List.map eoSession xs)) := by
  obtain ⟨xs_r, hxs_r⟩ : ∃ r, r = xs.map eSession := ⟨_, rfl⟩
  have lxs_r : A.rlen xs_r = (List.length xs : Int) := rlen_map hA hxs_r
  refine real_args (args' := [.sl 17 xs_r]) (by subst hxs_r; rfl) ?_
  have hlen : List.length xs ≤ 1048576 := hk _ (by simp [zsSessionS])
  refine real tyOk Tryd.func12 (by kernel_rfl) (afun_of rfl ?_)
  refine go_seq ?_
  refine go_reg ?_
  refine run_aops hA 1 _ _ _ _ (by cbv) ?_
  refine ops_done ?_
  refine go_seq ?_
  refine go_reg ?_
  refine run_aops hA 2 _ _ _ _ (by cbv) ?_
  obtain ⟨rm, hrm⟩ : ∃ r : List (List PV), r = List.replicate (Int.toNat (A.rlen xs_r)) [.int .i64 0, .str ByteArray.empty, .str ByteArray.empty, .bool false, .int .i64 0, .str ByteArray.empty, .zc, .zc, .int .i64 0, .str ByteArray.empty, .zc, .zc, .int .i64 0, .str ByteArray.empty, .str ByteArray.empty, .int .i64 0, .zc] := ⟨_, rfl⟩
  have hn0 : (0 : Int) ≤ A.rlen xs_r := by omega
  have hmax : A.rlen xs_r * 264 ≤ 140737488355328 := by omega
  refine ops_step rfl rfl (mk_arr rfl rfl rfl rfl rfl rfl hn0 hmax (by decide) (by decide) rfl hrm) ?_
  refine run_aops hA 1 _ _ _ _ (by cbv) ?_
  refine ops_done ?_
  refine go_seq ?_
  refine go_seq ?_
  refine go_reg ?_
  refine run_aops hA 1 _ _ _ _ (by cbv) ?_
  refine ops_done ?_
  refine go_block ?_
  refine go_loopE (fun σ m => ∃ (i : Nat) (ro : List (List PV)) (n4 : Int), σ = (S12_1 xs_r n4 ro) ∧ (n4 = (i : Int) ∧ i ≤ List.length xs ∧ ro = fill eoSession [.int .i64 0, .str ByteArray.empty, .str ByteArray.empty, .bool false, .int .i64 0, .str ByteArray.empty, .zc, .zc, .int .i64 0, .str ByteArray.empty, .zc, .zc, .int .i64 0, .str ByteArray.empty, .str ByteArray.empty, .int .i64 0, .zc] xs i) ∧ m = List.length xs - i) _ [] [0, 3, 4] [7] (S12_1 xs_r 0 rm) rfl (by cbv) ⟨0, rm, 0, rfl, ?_, rfl⟩ (fun σ m hI => ?_)
  · skip
    exact ⟨rfl, Nat.zero_le _, by rw [hrm, fill_zero, lxs_r]; rfl⟩
  obtain ⟨i, ro, n4, rfl, ⟨hn4, hi, hro⟩, rfl⟩ := hI
  refine go_seq ?_
  refine go_seq ?_
  refine go_reg ?_
  refine run_aops hA 4 _ _ _ _ (by cbv) ?_
  refine ops_done ?_
  refine go_cond rfl (fun c1 => ?_) (fun c1 => ?_)
  · skip
    have ec1 : n4 < (A.rlen xs_r) := lss_t hA c1
    refine go_skip ?_
    refine go_seq ?_
    refine go_block ?_
    refine go_reg ?_
    refine run_aops hA 4 _ _ _ _ (by cbv) ?_
    have h0x2 : (0 : Int) ≤ n4 := by
      omega
    have hlx2 : (Int.toNat n4) < List.length xs := by
      omega
    obtain ⟨x2, hx2⟩ : ∃ x, (xs)[(Int.toNat n4)]? = some x := ⟨_, List.getElem?_eq_getElem hlx2⟩
    have hmx2 := List.mem_of_getElem? hx2
    obtain ⟨x2_Kind, x2_In, x2_Out, x2_Over, ⟨x2_Bring_State, x2_Bring_From, x2_Bring_To, x2_Bring_Data⟩, ⟨x2_Fetch_State, x2_Fetch_User, x2_Fetch_Mails, x2_Fetch_Gone⟩, ⟨x2_Look_State, x2_Look_User, x2_Look_Box, x2_Look_Valid, x2_Look_Uids⟩⟩ := x2
    obtain ⟨x2_Bring_To_r, hx2_Bring_To_r⟩ : ∃ r, r = x2_Bring_To.map eString := ⟨_, rfl⟩
    have lx2_Bring_To_r : A.rlen x2_Bring_To_r = (List.length x2_Bring_To : Int) := rlen_map hA hx2_Bring_To_r
    obtain ⟨x2_Bring_Data_r, hx2_Bring_Data_r⟩ : ∃ r, r = x2_Bring_Data.map eString := ⟨_, rfl⟩
    have lx2_Bring_Data_r : A.rlen x2_Bring_Data_r = (List.length x2_Bring_Data : Int) := rlen_map hA hx2_Bring_Data_r
    obtain ⟨x2_Fetch_Mails_r, hx2_Fetch_Mails_r⟩ : ∃ r, r = x2_Fetch_Mails.map eMail := ⟨_, rfl⟩
    have lx2_Fetch_Mails_r : A.rlen x2_Fetch_Mails_r = (List.length x2_Fetch_Mails : Int) := rlen_map hA hx2_Fetch_Mails_r
    obtain ⟨x2_Fetch_Gone_r, hx2_Fetch_Gone_r⟩ : ∃ r, r = x2_Fetch_Gone.map eBool := ⟨_, rfl⟩
    have lx2_Fetch_Gone_r : A.rlen x2_Fetch_Gone_r = (List.length x2_Fetch_Gone : Int) := rlen_map hA hx2_Fetch_Gone_r
    obtain ⟨x2_Look_Uids_r, hx2_Look_Uids_r⟩ : ∃ r, r = x2_Look_Uids.map eInt := ⟨_, rfl⟩
    have lx2_Look_Uids_r : A.rlen x2_Look_Uids_r = (List.length x2_Look_Uids : Int) := rlen_map hA hx2_Look_Uids_r
    have hrx2 : xs_r[(Int.toNat n4)]? = some [.int .i64 x2_Kind, .str x2_In, .str x2_Out, .bool x2_Over, .int .i64 x2_Bring_State, .str x2_Bring_From, .sl 1 x2_Bring_To_r, .sl 1 x2_Bring_Data_r, .int .i64 x2_Fetch_State, .str x2_Fetch_User, .sl 3 x2_Fetch_Mails_r, .sl 1 x2_Fetch_Gone_r, .int .i64 x2_Look_State, .str x2_Look_User, .str x2_Look_Box, .int .i64 x2_Look_Valid, .sl 1 x2_Look_Uids_r] := by
      subst hx2_Bring_To_r hx2_Bring_Data_r hx2_Fetch_Mails_r hx2_Fetch_Gone_r hx2_Look_Uids_r; exact map_at eSession hxs_r hx2
    have hkx := fun (k : Nat) h => hk k (List.mem_cons_of_mem _ (List.mem_flatMap.2 ⟨_, hmx2, h⟩))
    refine ops_step rfl rfl (idx_sl rfl rfl rfl rfl rfl h0x2 rfl hrx2) ?_
    refine run_aops hA 1 _ _ _ _ (by cbv) ?_
    obtain ⟨v20_3_Bring_To, v20_3_Bring_Data, v20_3_Fetch_Mails, v20_3_Fetch_Gone, v20_3_Look_Uids, hv20_3_Bring_To, hv20_3_Bring_Data, hv20_3_Fetch_Mails, hv20_3_Fetch_Gone, hv20_3_Look_Uids, hc4⟩ : ∃ (v20_3_Bring_To : List (List PV)) (v20_3_Bring_Data : List (List PV)) (v20_3_Fetch_Mails : List (List PV)) (v20_3_Fetch_Gone : List (List PV)) (v20_3_Look_Uids : List (List PV)), v20_3_Bring_To = List.map eString x2_Bring_To ∧ v20_3_Bring_Data = List.map eString x2_Bring_Data ∧ v20_3_Fetch_Mails = List.map eoMail x2_Fetch_Mails ∧ v20_3_Fetch_Gone = List.map eBool x2_Fetch_Gone ∧ v20_3_Look_Uids = List.map eInt x2_Look_Uids ∧ Real Tryd.prog 25 [.agg [.int .i64 x2_Kind, .str x2_In, .str x2_Out, .bool x2_Over, .int .i64 x2_Bring_State, .str x2_Bring_From, .sl 1 x2_Bring_To_r, .sl 1 x2_Bring_Data_r, .int .i64 x2_Fetch_State, .str x2_Fetch_User, .sl 3 x2_Fetch_Mails_r, .sl 1 x2_Fetch_Gone_r, .int .i64 x2_Look_State, .str x2_Look_User, .str x2_Look_Box, .int .i64 x2_Look_Valid, .sl 1 x2_Look_Uids_r]] (.agg [.int .i64 x2_Kind, .str x2_In, .str x2_Out, .bool x2_Over, .int .i64 x2_Bring_State, .str x2_Bring_From, .ow 1 v20_3_Bring_To, .ow 1 v20_3_Bring_Data, .int .i64 x2_Fetch_State, .str x2_Fetch_User, .ow 3 v20_3_Fetch_Mails, .ow 1 v20_3_Fetch_Gone, .int .i64 x2_Look_State, .str x2_Look_User, .str x2_Look_Box, .int .i64 x2_Look_Valid, .ow 1 v20_3_Look_Uids]) := ⟨_, _, _, _, _, rfl, rfl, rfl, rfl, rfl, by subst hx2_Bring_To_r hx2_Bring_Data_r hx2_Fetch_Mails_r hx2_Fetch_Gone_r hx2_Look_Uids_r; exact r_laws_toSession A hA (⟨x2_Kind, x2_In, x2_Out, x2_Over, ⟨x2_Bring_State, x2_Bring_From, x2_Bring_To, x2_Bring_Data⟩, ⟨x2_Fetch_State, x2_Fetch_User, x2_Fetch_Mails, x2_Fetch_Gone⟩, ⟨x2_Look_State, x2_Look_User, x2_Look_Box, x2_Look_Valid, x2_Look_Uids⟩⟩ : GSession) hkx⟩
    have lv20_3_Bring_To : A.rlen v20_3_Bring_To = (List.length x2_Bring_To : Int) := rlen_map hA hv20_3_Bring_To
    have lv20_3_Bring_Data : A.rlen v20_3_Bring_Data = (List.length x2_Bring_Data : Int) := rlen_map hA hv20_3_Bring_Data
    have lv20_3_Fetch_Mails : A.rlen v20_3_Fetch_Mails = (List.length x2_Fetch_Mails : Int) := rlen_map hA hv20_3_Fetch_Mails
    have lv20_3_Fetch_Gone : A.rlen v20_3_Fetch_Gone = (List.length x2_Fetch_Gone : Int) := rlen_map hA hv20_3_Fetch_Gone
    have lv20_3_Look_Uids : A.rlen v20_3_Look_Uids = (List.length x2_Look_Uids : Int) := rlen_map hA hv20_3_Look_Uids
    refine ops_callV rfl rfl (by cbv) (by cbv) hc4 (.inr rfl) (by cbv) ?_
    have hlo : n4 < (List.length ro : Int) := by
      rw [hro, fill_len _ _ _ hi]; omega
    refine ops_step rfl rfl (idx_own rfl rfl rfl rfl rfl rfl (by omega) hlo rfl) ?_
    have hix2 := hx2
    rw [hn4] at hix2
    have hix2 : xs[i]? = some _ := hix2
    have hz : ro[Int.toNat n4]? = some [.int .i64 0, .str ByteArray.empty, .str ByteArray.empty, .bool false, .int .i64 0, .str ByteArray.empty, .zc, .zc, .int .i64 0, .str ByteArray.empty, .zc, .zc, .int .i64 0, .str ByteArray.empty, .str ByteArray.empty, .int .i64 0, .zc] := by
      rw [hro, hn4]; exact fill_at _ _ _ (by omega)
    have hset : fill eoSession [.int .i64 0, .str ByteArray.empty, .str ByteArray.empty, .bool false, .int .i64 0, .str ByteArray.empty, .zc, .zc, .int .i64 0, .str ByteArray.empty, .zc, .zc, .int .i64 0, .str ByteArray.empty, .str ByteArray.empty, .int .i64 0, .zc] xs (i + 1) = ro.set (Int.toNat n4) [.int .i64 x2_Kind, .str x2_In, .str x2_Out, .bool x2_Over, .int .i64 x2_Bring_State, .str x2_Bring_From, .ow 1 v20_3_Bring_To, .ow 1 v20_3_Bring_Data, .int .i64 x2_Fetch_State, .str x2_Fetch_User, .ow 3 v20_3_Fetch_Mails, .ow 1 v20_3_Fetch_Gone, .int .i64 x2_Look_State, .str x2_Look_User, .str x2_Look_Box, .int .i64 x2_Look_Valid, .ow 1 v20_3_Look_Uids] := by
      rw [hro, hn4]; subst hv20_3_Bring_To hv20_3_Bring_Data hv20_3_Fetch_Mails hv20_3_Fetch_Gone hv20_3_Look_Uids; exact (fill_set eoSession _ xs hix2).symm
    obtain ⟨ro2, hro2⟩ : ∃ r, r = fill eoSession [.int .i64 0, .str ByteArray.empty, .str ByteArray.empty, .bool false, .int .i64 0, .str ByteArray.empty, .zc, .zc, .int .i64 0, .str ByteArray.empty, .zc, .zc, .int .i64 0, .str ByteArray.empty, .str ByteArray.empty, .int .i64 0, .zc] xs (i + 1) := ⟨_, rfl⟩
    rw [← hro2] at hset
    refine ops_step rfl rfl (sto_arr (r := [.int .i64 0, .str ByteArray.empty, .str ByteArray.empty, .bool false, .int .i64 0, .str ByteArray.empty, .zc, .zc, .int .i64 0, .str ByteArray.empty, .zc, .zc, .int .i64 0, .str ByteArray.empty, .str ByteArray.empty, .int .i64 0, .zc]) (cs := [.int .i64 x2_Kind, .str x2_In, .str x2_Out, .bool x2_Over, .int .i64 x2_Bring_State, .str x2_Bring_From, .ow 1 v20_3_Bring_To, .ow 1 v20_3_Bring_Data, .int .i64 x2_Fetch_State, .str x2_Fetch_User, .ow 3 v20_3_Fetch_Mails, .ow 1 v20_3_Fetch_Gone, .int .i64 x2_Look_State, .str x2_Look_User, .str x2_Look_Box, .int .i64 x2_Look_Valid, .ow 1 v20_3_Look_Uids]) rfl rfl rfl rfl rfl ⟨_, _, rfl⟩ rfl rfl hz rfl hset) ?_
    refine ops_done ?_
    refine go_reg ?_
    refine run_aops hA 3 _ _ _ _ (by cbv) ?_
    refine ops_done ?_
    refine ⟨(S12_1 xs_r (A.num .add .i64 n4 1) ro2), List.length xs - (i + 1), ?_, by cbv, i + 1, ro2, (A.num .add .i64 n4 1), rfl, ?_, rfl⟩
    · skip
      omega
    · skip
      exact ⟨by rw [add_i64 hA (by omega) (by omega)]; omega, by omega, hro2⟩
  · skip
    have ec1 : (A.rlen xs_r) ≤ n4 := lss_f hA c1
    refine go_exit ⟨fun _ => ?_, fun h => absurd rfl h⟩
    refine go_seq ?_
    refine go_reg ?_
    refine run_aops hA 2 _ _ _ _ (by cbv) ?_
    refine ops_done ?_
    refine go_ret ⟨_, by cbv, ?_⟩
    show _ = (PV.ow 17 ro)
    refine congrArg (PV.ow 17) ?_
    rw [hro, fill_all _ _ _ (by omega)]
end Go.Av
