/- Walks: Untidied. -/
import Derived.Test.YtjbokkoiicoahaaTm
namespace Go.Av
open Go Go.Proofs
set_option maxRecDepth 100000
set_option maxHeartbeats 4000000
set_option linter.unusedVariables false
set_option linter.unusedSimpArgs false
def keepE (x : GEvent) : Bool := decide (x.Kind ≠ 4 ∧ x.Kind ≠ 5)
def unt (xs : List GEvent) : List GEvent := xs.filter keepE
theorem unt_at {xs : List GEvent} {i : Nat} {x : GEvent} (h : xs[i]? = some x) : unt (xs.take (i + 1)) = if keepE x then unt (xs.take i) ++ [x] else unt (xs.take i) := by
  rw [List.take_add_one, h, Option.toList_some, unt, List.filter_append]
  cases hk : keepE x <;> simp [List.filter_cons, hk, unt]
theorem unt_len (xs : List GEvent) (i : Nat) (h : i ≤ xs.length) : (unt (xs.take i)).length ≤ i := by
  have h1 := List.length_filter_le keepE (xs.take i)
  rw [List.length_take] at h1
  unfold unt; omega
theorem ev_keep {xs : List GEvent} {N : Nat} (hz : ∀ k ∈ zsEventS xs, k ≤ N) {x : GEvent} (h : x ∈ xs) : x.Keep.length ≤ N := hz _ (List.mem_cons_of_mem _ (List.mem_flatMap.2 ⟨x, h, by simp [zsEvent, zsIntS]⟩))
theorem unt_zs {xs : List GEvent} {N : Int} (hz : ∀ k ∈ zsEventS xs, (k : Int) ≤ N) : ∀ k ∈ zsEventS (unt xs), (k : Int) ≤ N := by
  intro k hk
  have hl := List.length_filter_le keepE xs
  have h0 := hz xs.length (List.mem_cons_self ..)
  rcases List.mem_cons.1 hk with rfl | hk
  · show ((List.length (List.filter keepE xs) : Nat) : Int) ≤ N
    omega
  · obtain ⟨x, hx, hk⟩ := List.mem_flatMap.1 hk
    exact hz k (List.mem_cons_of_mem _ (List.mem_flatMap.2 ⟨x, (List.mem_filter.1 hx).1, hk⟩))
theorem cn_unt : ∀ xs : List GEvent, cnEventS (unt xs) ≤ cnEventS xs
  | [] => Int.le_refl _
  | x :: xs => by
    have h := cn_unt xs; have h2 := ceEvent_nn x
    unfold unt at *
    cases hk : keepE x <;> simp only [List.filter_cons, hk, cnEventS, if_true, Bool.false_eq_true, if_false] <;> omega
theorem chain_sum : ∀ {l : List Nat} {n : Int}, 0 ≤ chain n l → (l.sum : Int) ≤ n
  | [], n, h => by simpa [chain] using h
  | k :: l, n, h => by
    rw [chain_cons] at h
    split at h
    · omega
    · have := chain_sum h; simp only [List.sum_cons]; omega

theorem r_Clone_Int (A : Alg) (hA : A = std) (x : List Int) (hb : List.length x ≤ 1048576) : Real Try.prog 42 [.sl 1 (List.map eInt x)] (.ow 1 (List.map eInt x)) := by
  obtain ⟨x_r, hx_r⟩ : ∃ r, r = x.map eInt := ⟨_, rfl⟩
  have lx_r : A.rlen x_r = (List.length x : Int) := rlen_map hA hx_r
  refine real_args (args' := [.sl 1 x_r]) (by subst hx_r; rfl) ?_
  refine real tyOk Try.func42 (by kernel_rfl) (afun_of rfl ?_)
  refine go_seq ?_
  refine go_reg ?_
  refine run_aops hA 1 _ _ _ _ (by cbv) ?_
  refine ops_done ?_
  refine go_seq ?_
  refine go_seq ?_
  refine go_reg ?_
  refine run_aops hA 1 _ _ _ _ (by cbv) ?_
  refine ops_isnil rfl rfl rfl rfl (by cbv) (fun b1 hb1 => ?_)
  refine ops_done ?_
  refine go_cond rfl (fun c2 => ?_) (fun c2 => ?_)
  · skip
    refine go_seq ?_
    refine go_regB ?_
    refine run_aops hA 1 _ _ _ _ (by cbv) ?_
    refine ops_doneB (tw := [.slot 2 2 1]) (by cbv) ?_
    refine go_ret ⟨_, by cbv, ?_⟩
    show _ = (PV.ow 1 ([]))
    refine congrArg (PV.ow 1) ?_
    exact Eq.trans (show List.map eInt x = List.map eInt x from rfl) (hx_r.symm.trans (hb1 c2))
  · skip
    refine go_skip ?_
    refine go_seq ?_
    refine go_reg ?_
    refine run_aops hA 2 _ _ _ _ (by cbv) ?_
    obtain ⟨r3, hr3⟩ : ∃ r : List (List PV), r = ([]) ++ x_r := ⟨_, rfl⟩
    have er3 : r3 = List.map eInt (([]) ++ x) := by rw [hr3]; exact app_eq rfl hx_r
    have lr3 : A.rlen r3 = (List.length (([]) ++ x) : Int) := rlen_map hA er3
    refine ops_step rfl rfl (app_own rfl rfl rfl rfl rfl rfl rfl rfl hr3 (by cbv) (by cbv) (by cbv) rfl (by
      show (List.length ([]) + List.length x_r) * _ ≤ _
      show (List.length ([] : List (List PV)) + List.length x_r) * 8 ≤ _
      rw [hx_r]; simp only [List.length_nil, List.length_map]; omega) (by decide) (by decide)) ?_
    refine run_aops hA 1 _ _ _ _ (by cbv) ?_
    refine ops_done ?_
    refine go_ret ⟨_, by cbv, ?_⟩
    show _ = (PV.ow 1 r3)
    refine congrArg (PV.ow 1) ?_
    exact (er3.trans rfl).symm

theorem r_spec_l26Event (A : Alg) (hA : A = std) (x : GEvent) (hb : List.length x.Keep ≤ 1048576) : Real Try.prog 40 [.agg (eEvent x)] (.agg (eoEvent x)) := by
  obtain ⟨x_Kind, x_At, x_Text, x_Keep⟩ := x
  obtain ⟨x_Keep_r, hx_Keep_r⟩ : ∃ r, r = x_Keep.map eInt := ⟨_, rfl⟩
  have lx_Keep_r : A.rlen x_Keep_r = (List.length x_Keep : Int) := rlen_map hA hx_Keep_r
  refine real_args (args' := [.agg [.int .i64 x_Kind, .int .i64 x_At, .str x_Text, .sl 1 x_Keep_r]]) (by subst hx_Keep_r; rfl) ?_
  have hb : List.length x_Keep ≤ 1048576 := hb
  refine real tyOk Try.func40 (by kernel_rfl) (afun_of rfl ?_)
  refine go_seq ?_
  refine go_reg ?_
  refine run_aops hA 2 _ _ _ _ (by cbv) ?_
  refine ops_done ?_
  refine go_seq ?_
  refine go_reg ?_
  refine run_aops hA 3 _ _ _ _ (by cbv) ?_
  obtain ⟨r1, hr1⟩ : ∃ r : List (List PV), r = ([]) ++ x_Keep_r := ⟨_, rfl⟩
  have er1 : r1 = List.map eInt (([]) ++ x_Keep) := by rw [hr1]; exact app_eq rfl hx_Keep_r
  have lr1 : A.rlen r1 = (List.length (([]) ++ x_Keep) : Int) := rlen_map hA er1
  refine ops_step rfl rfl (app_own rfl rfl rfl rfl rfl rfl rfl rfl hr1 (by cbv) (by cbv) (by cbv) rfl (by
    show (List.length ([]) + List.length x_Keep_r) * _ ≤ _
    show (List.length ([] : List (List PV)) + List.length x_Keep_r) * 8 ≤ _
    rw [hx_Keep_r]; simp only [List.length_nil, List.length_map]; omega) (by decide) (by decide)) ?_
  refine run_aops hA 2 _ _ _ _ (by cbv) ?_
  refine ops_done ?_
  refine go_seq ?_
  refine go_reg ?_
  refine run_aops hA 2 _ _ _ _ (by cbv) ?_
  refine ops_done ?_
  refine go_ret ⟨_, by cbv, ?_⟩
  show _ = (PV.agg [.int .i64 x_Kind, .int .i64 x_At, .str x_Text, .ow 1 r1])
  simp only [er1, List.nil_append]; rfl

def S11_1 (p0 : List (List PV)) (p1 : Int) (p2 : Int) (p3 : List (List PV)) : St := { sl := [.bad, .bad, .bad, .own 6, .bad, .bad, .bad, .sl 4 p0, .int .i64 p1, .int .i64 p2, .bad, .bad, .bad, .bad, .bad, .bad, .bad, .bad, .bad, .bad, .bad, .bad, .bad, .bad, .bad, .bad, .bad, .bad, .bad, .bad, .bad], bl := [(6, ⟨.arr, 4, p3⟩)] }
theorem r_impl_Untidied (A : Alg) (hA : A = std) (xs : List GEvent) (hz : ∀ k ∈ zsEventS xs, k ≤ 1048576) : Real Try.prog 11 [.sl 4 (List.map eEvent xs)] (.ow 4 (List.map eoEvent (unt xs))) := by
  obtain ⟨xs_r, hxs_r⟩ : ∃ r, r = xs.map eEvent := ⟨_, rfl⟩
  have lxs_r : A.rlen xs_r = (List.length xs : Int) := rlen_map hA hxs_r
  refine real_args (args' := [.sl 4 xs_r]) (by subst hxs_r; rfl) ?_
  have hlen : List.length xs ≤ 1048576 := hz _ (List.mem_cons_self ..)
  refine real tyOk Try.func11 (by kernel_rfl) (afun_of rfl ?_)
  refine go_seq ?_
  refine go_reg ?_
  refine run_aops hA 1 _ _ _ _ (by cbv) ?_
  refine ops_done ?_
  refine go_seq ?_
  refine go_reg ?_
  refine run_aops hA 2 _ _ _ _ (by cbv) ?_
  refine ops_done ?_
  refine go_seq ?_
  refine go_seq ?_
  refine go_reg ?_
  refine run_aops hA 3 _ _ _ _ (by cbv) ?_
  refine ops_done ?_
  refine go_block ?_
  refine go_loopE (fun σ m => ∃ (i : Nat) (R : List (List PV)) (n : Int), σ = (S11_1 xs_r (A.rlen xs_r) n R) ∧ (n = (i : Int) ∧ i ≤ List.length xs ∧ R = List.map eoEvent (unt (xs.take i))) ∧ m = List.length xs - i) _ [] [3, 7, 8, 9] [6] (S11_1 xs_r (A.rlen xs_r) 0 ([])) rfl (by cbv) ⟨0, [], 0, rfl, ?_, rfl⟩ (fun σ m hI => ?_)
  · skip
    exact ⟨rfl, Nat.zero_le _, rfl⟩
  obtain ⟨i, R, n, rfl, ⟨hn, hi, hR⟩, rfl⟩ := hI
  refine go_seq ?_
  refine go_reg ?_
  refine run_aops hA 1 _ _ _ _ (by cbv) ?_
  refine ops_done ?_
  refine go_seq ?_
  refine go_cond rfl (fun c1 => ?_) (fun c1 => ?_)
  · skip
    have ec1 : n < (A.rlen xs_r) := lss_t hA c1
    refine go_skip ?_
    refine go_seq ?_
    refine go_block ?_
    refine go_seq ?_
    refine go_reg ?_
    have h0x2 : (0 : Int) ≤ n := by
      omega
    have hlx2 : (Int.toNat n) < List.length xs := by
      omega
    obtain ⟨x2, hx2⟩ : ∃ x, (xs)[(Int.toNat n)]? = some x := ⟨_, List.getElem?_eq_getElem hlx2⟩
    have hmx2 := List.mem_of_getElem? hx2
    obtain ⟨x2_Kind, x2_At, x2_Text, x2_Keep⟩ := x2
    obtain ⟨x2_Keep_r, hx2_Keep_r⟩ : ∃ r, r = x2_Keep.map eInt := ⟨_, rfl⟩
    have lx2_Keep_r : A.rlen x2_Keep_r = (List.length x2_Keep : Int) := rlen_map hA hx2_Keep_r
    have hrx2 : xs_r[(Int.toNat n)]? = some [.int .i64 x2_Kind, .int .i64 x2_At, .str x2_Text, .sl 1 x2_Keep_r] := by
      subst hx2_Keep_r; exact map_at eEvent hxs_r hx2
    have hix2 := hx2
    rw [hn] at hix2
    have hix2 : (xs)[i]? = some (⟨x2_Kind, x2_At, x2_Text, x2_Keep⟩ : GEvent) := hix2
    have hbx := ev_keep hz hmx2
    have hbx : List.length x2_Keep ≤ 1048576 := hbx
    refine ops_step rfl rfl (idx_sl rfl rfl rfl rfl rfl h0x2 rfl hrx2) ?_
    refine run_aops hA 3 _ _ _ _ (by cbv) ?_
    refine ops_done ?_
    refine go_seq ?_
    refine go_reg ?_
    refine run_aops hA 4 _ _ _ _ (by cbv) ?_
    refine ops_split 16 rfl (fun c3 => ?_) (fun c3 => ?_)
    · skip
      have ec3 : x2_Kind ≠ 4 := neq_t hA c3
      refine run_aops hA 4 _ _ _ _ (by cbv) ?_
      refine ops_done ?_
      refine go_cond rfl (fun c4 => ?_) (fun c4 => ?_)
      · skip
        have ec4 : x2_Kind ≠ 5 := neq_t hA c4
        refine go_seq ?_
        refine go_reg ?_
        refine run_aops hA 2 _ _ _ _ (by cbv) ?_
        obtain ⟨v23_5, hv23_5, hc6⟩ : ∃ (v23_5 : List (List PV)), v23_5 = List.map eInt x2_Keep ∧ Real Try.prog 42 [.sl 1 x2_Keep_r] (.ow 1 v23_5) := ⟨_, rfl, by subst hx2_Keep_r; exact r_Clone_Int A hA x2_Keep (by omega)⟩
        have lv23_5 : A.rlen v23_5 = (List.length x2_Keep : Int) := rlen_map hA hv23_5
        refine ops_callV rfl rfl (by cbv) (by cbv) hc6 (.inr rfl) (by cbv) ?_
        refine run_aops hA 2 _ _ _ _ (by cbv) ?_
        refine ops_done ?_
        refine go_reg ?_
        refine run_aops hA 3 _ _ _ _ (by cbv) ?_
        obtain ⟨r7, hr7⟩ : ∃ r : List (List PV), r = R ++ [[.int .i64 x2_Kind, .int .i64 x2_At, .str x2_Text, .ow 1 v23_5]] := ⟨_, rfl⟩
        have er7 : r7 = List.map eoEvent ((unt (xs.take i)) ++ ([(⟨x2_Kind, x2_At, x2_Text, x2_Keep⟩ : GEvent)])) := by rw [hr7]; exact app_eq hR (by simp only [hv23_5]; rfl)
        have lr7 : A.rlen r7 = (List.length ((unt (xs.take i)) ++ ([(⟨x2_Kind, x2_At, x2_Text, x2_Keep⟩ : GEvent)])) : Int) := rlen_map hA er7
        refine ops_step rfl rfl (app_own rfl rfl rfl rfl rfl rfl rfl rfl hr7 (by cbv) (by cbv) (by cbv) rfl (by
          show (List.length R + List.length ([[.int .i64 x2_Kind, .int .i64 x2_At, .str x2_Text, .ow 1 v23_5]])) * _ ≤ _
          show (List.length R + 1) * 56 ≤ _
          rw [hR, List.length_map]
          have := unt_len xs i hi
          omega) (by decide) (by decide)) ?_
        refine run_aops hA 1 _ _ _ _ (by cbv) ?_
        refine ops_done ?_
        refine go_reg ?_
        refine run_aops hA 2 _ _ _ _ (by cbv) ?_
        refine ops_done ?_
        refine ⟨(S11_1 xs_r (A.rlen xs_r) (A.num .add .i64 n 1) r7), List.length xs - (i + 1), ?_, by cbv, i + 1, r7, (A.num .add .i64 n 1), rfl, ?_, rfl⟩
        · skip
          omega
        · skip
          refine ⟨by rw [add_i64 hA (by omega) (by omega)]; omega, by omega, ?_⟩
          rw [unt_at hix2, show keepE _ = true from by simp [keepE, ec3, ec4]]
          exact er7
      · skip
        have ec4 : x2_Kind = 5 := neq_f hA c4
        refine go_skip ?_
        refine go_reg ?_
        refine run_aops hA 2 _ _ _ _ (by cbv) ?_
        refine ops_done ?_
        refine ⟨(S11_1 xs_r (A.rlen xs_r) (A.num .add .i64 n 1) R), List.length xs - (i + 1), ?_, by cbv, i + 1, R, (A.num .add .i64 n 1), rfl, ?_, rfl⟩
        · skip
          omega
        · skip
          refine ⟨by rw [add_i64 hA (by omega) (by omega)]; omega, by omega, ?_⟩
          rw [unt_at hix2, show keepE _ = false from by simp [keepE, ec3, ec4]]
          exact hR
    · skip
      have ec3 : x2_Kind = 4 := neq_f hA c3
      refine run_aops hA 4 _ _ _ _ (by cbv) ?_
      refine ops_done ?_
      refine go_cond rfl (fun c8 => ?_) (fun c8 => ?_)
      · skip
        exact absurd (show false = true from c8) (by rw [show false = false from by rfl]; decide)
      · skip
        refine go_skip ?_
        refine go_reg ?_
        refine run_aops hA 2 _ _ _ _ (by cbv) ?_
        refine ops_done ?_
        refine ⟨(S11_1 xs_r (A.rlen xs_r) (A.num .add .i64 n 1) R), List.length xs - (i + 1), ?_, by cbv, i + 1, R, (A.num .add .i64 n 1), rfl, ?_, rfl⟩
        · skip
          omega
        · skip
          refine ⟨by rw [add_i64 hA (by omega) (by omega)]; omega, by omega, ?_⟩
          rw [unt_at hix2, show keepE _ = false from by simp [keepE, ec3]]
          exact hR
  · skip
    have ec1 : (A.rlen xs_r) ≤ n := lss_f hA c1
    refine go_exit ⟨fun _ => ?_, fun h => absurd rfl h⟩
    refine go_seq ?_
    refine go_reg ?_
    refine run_aops hA 2 _ _ _ _ (by cbv) ?_
    refine ops_done ?_
    refine go_ret ⟨_, by cbv, ?_⟩
    show _ = (PV.ow 4 R)
    refine congrArg (PV.ow 4) ?_
    rw [hR, List.take_of_length_le (by omega)]

def S9_1 (p0 : List (List PV)) (p1 : Int) (p2 : List (List PV)) : St := { sl := [.sl 4 p0, .bad, .bad, .own 5, .int .i64 p1, .bad, .bad, .bad, .bad, .bad, .bad, .bad, .bad, .bad, .bad, .bad, .bad, .bad, .bad, .bad, .bad, .bad, .bad, .bad, .bad, .bad, .bad, .bad, .bad, .bad, .bad, .bad, .bad, .bad, .bad], bl := [(5, ⟨.arr, 4, p2⟩)] }
theorem r_spec_Untidied (A : Alg) (hA : A = std) (xs : List GEvent) (hz : ∀ k ∈ zsEventS xs, k ≤ 1048576) : Real Try.prog 9 [.sl 4 (List.map eEvent xs)] (.ow 4 (List.map eoEvent (unt xs))) := by
  obtain ⟨xs_r, hxs_r⟩ : ∃ r, r = xs.map eEvent := ⟨_, rfl⟩
  have lxs_r : A.rlen xs_r = (List.length xs : Int) := rlen_map hA hxs_r
  refine real_args (args' := [.sl 4 xs_r]) (by subst hxs_r; rfl) ?_
  have hlen : List.length xs ≤ 1048576 := hz _ (List.mem_cons_self ..)
  refine real tyOk Try.func9 (by kernel_rfl) (afun_of rfl ?_)
  refine go_seq ?_
  refine go_reg ?_
  refine run_aops hA 1 _ _ _ _ (by cbv) ?_
  refine ops_done ?_
  refine go_seq ?_
  refine go_reg ?_
  refine run_aops hA 2 _ _ _ _ (by cbv) ?_
  refine ops_done ?_
  refine go_seq ?_
  refine go_seq ?_
  refine go_reg ?_
  refine run_aops hA 1 _ _ _ _ (by cbv) ?_
  refine ops_done ?_
  refine go_block ?_
  refine go_loopE (fun σ m => ∃ (i : Nat) (R : List (List PV)) (n : Int), σ = (S9_1 xs_r n R) ∧ (n = (i : Int) ∧ i ≤ List.length xs ∧ R = List.map eoEvent (unt (xs.take i))) ∧ m = List.length xs - i) _ [] [0, 3, 4] [5] (S9_1 xs_r 0 ([])) rfl (by cbv) ⟨0, [], 0, rfl, ?_, rfl⟩ (fun σ m hI => ?_)
  · skip
    exact ⟨rfl, Nat.zero_le _, rfl⟩
  obtain ⟨i, R, n, rfl, ⟨hn, hi, hR⟩, rfl⟩ := hI
  refine go_seq ?_
  refine go_seq ?_
  refine go_reg ?_
  refine run_aops hA 4 _ _ _ _ (by cbv) ?_
  refine ops_done ?_
  refine go_cond rfl (fun c1 => ?_) (fun c1 => ?_)
  · skip
    have ec1 : n < (A.rlen xs_r) := lss_t hA c1
    refine go_skip ?_
    refine go_seq ?_
    refine go_block ?_
    refine go_seq ?_
    refine go_reg ?_
    refine run_aops hA 2 _ _ _ _ (by cbv) ?_
    have h0x2 : (0 : Int) ≤ n := by
      omega
    have hlx2 : (Int.toNat n) < List.length xs := by
      omega
    obtain ⟨x2, hx2⟩ : ∃ x, (xs)[(Int.toNat n)]? = some x := ⟨_, List.getElem?_eq_getElem hlx2⟩
    have hmx2 := List.mem_of_getElem? hx2
    obtain ⟨x2_Kind, x2_At, x2_Text, x2_Keep⟩ := x2
    obtain ⟨x2_Keep_r, hx2_Keep_r⟩ : ∃ r, r = x2_Keep.map eInt := ⟨_, rfl⟩
    have lx2_Keep_r : A.rlen x2_Keep_r = (List.length x2_Keep : Int) := rlen_map hA hx2_Keep_r
    have hrx2 : xs_r[(Int.toNat n)]? = some [.int .i64 x2_Kind, .int .i64 x2_At, .str x2_Text, .sl 1 x2_Keep_r] := by
      subst hx2_Keep_r; exact map_at eEvent hxs_r hx2
    have hix2 := hx2
    rw [hn] at hix2
    have hix2 : (xs)[i]? = some (⟨x2_Kind, x2_At, x2_Text, x2_Keep⟩ : GEvent) := hix2
    have hbx := ev_keep hz hmx2
    have hbx : List.length x2_Keep ≤ 1048576 := hbx
    refine ops_step rfl rfl (idx_sl rfl rfl rfl rfl rfl h0x2 rfl hrx2) ?_
    refine run_aops hA 4 _ _ _ _ (by cbv) ?_
    refine ops_split 18 rfl (fun c3 => ?_) (fun c3 => ?_)
    · skip
      have ec3 : x2_Kind ≠ 4 := neq_t hA c3
      refine run_aops hA 2 _ _ _ _ (by cbv) ?_
      refine ops_stepG rfl rfl rfl rfl (idx_sl rfl rfl rfl rfl rfl h0x2 rfl hrx2) ?_
      refine run_aops hA 4 _ _ _ _ (by cbv) ?_
      refine ops_done ?_
      refine go_cond rfl (fun c4 => ?_) (fun c4 => ?_)
      · skip
        have ec4 : x2_Kind ≠ 5 := neq_t hA c4
        refine go_reg ?_
        refine run_aops hA 3 _ _ _ _ (by cbv) ?_
        refine ops_step rfl rfl (idx_sl rfl rfl rfl rfl rfl h0x2 rfl hrx2) ?_
        refine run_aops hA 1 _ _ _ _ (by cbv) ?_
        obtain ⟨v31_5_Keep, hv31_5_Keep, hc6⟩ : ∃ (v31_5_Keep : List (List PV)), v31_5_Keep = List.map eInt x2_Keep ∧ Real Try.prog 40 [.agg [.int .i64 x2_Kind, .int .i64 x2_At, .str x2_Text, .sl 1 x2_Keep_r]] (.agg [.int .i64 x2_Kind, .int .i64 x2_At, .str x2_Text, .ow 1 v31_5_Keep]) := ⟨_, rfl, by subst hx2_Keep_r; exact r_spec_l26Event A hA (⟨x2_Kind, x2_At, x2_Text, x2_Keep⟩ : GEvent) (by assumption)⟩
        have lv31_5_Keep : A.rlen v31_5_Keep = (List.length x2_Keep : Int) := rlen_map hA hv31_5_Keep
        refine ops_callV rfl rfl (by cbv) (by cbv) hc6 (.inr rfl) (by cbv) ?_
        refine run_aops hA 1 _ _ _ _ (by cbv) ?_
        obtain ⟨r7, hr7⟩ : ∃ r : List (List PV), r = R ++ [[.int .i64 x2_Kind, .int .i64 x2_At, .str x2_Text, .ow 1 v31_5_Keep]] := ⟨_, rfl⟩
        have er7 : r7 = List.map eoEvent ((unt (xs.take i)) ++ ([(⟨x2_Kind, x2_At, x2_Text, x2_Keep⟩ : GEvent)])) := by rw [hr7]; exact app_eq hR (by simp only [hv31_5_Keep]; rfl)
        have lr7 : A.rlen r7 = (List.length ((unt (xs.take i)) ++ ([(⟨x2_Kind, x2_At, x2_Text, x2_Keep⟩ : GEvent)])) : Int) := rlen_map hA er7
        refine ops_step rfl rfl (app_own rfl rfl rfl rfl rfl rfl rfl rfl hr7 (by cbv) (by cbv) (by cbv) rfl (by
          show (List.length R + List.length ([[.int .i64 x2_Kind, .int .i64 x2_At, .str x2_Text, .ow 1 v31_5_Keep]])) * _ ≤ _
          show (List.length R + 1) * 56 ≤ _
          rw [hR, List.length_map]
          have := unt_len xs i hi
          omega) (by decide) (by decide)) ?_
        refine run_aops hA 1 _ _ _ _ (by cbv) ?_
        refine ops_done ?_
        refine go_reg ?_
        refine run_aops hA 3 _ _ _ _ (by cbv) ?_
        refine ops_done ?_
        refine ⟨(S9_1 xs_r (A.num .add .i64 n 1) r7), List.length xs - (i + 1), ?_, by cbv, i + 1, r7, (A.num .add .i64 n 1), rfl, ?_, rfl⟩
        · skip
          omega
        · skip
          refine ⟨by rw [add_i64 hA (by omega) (by omega)]; omega, by omega, ?_⟩
          rw [unt_at hix2, show keepE _ = true from by simp [keepE, ec3, ec4]]
          exact er7
      · skip
        have ec4 : x2_Kind = 5 := neq_f hA c4
        refine go_skip ?_
        refine go_reg ?_
        refine run_aops hA 3 _ _ _ _ (by cbv) ?_
        refine ops_done ?_
        refine ⟨(S9_1 xs_r (A.num .add .i64 n 1) R), List.length xs - (i + 1), ?_, by cbv, i + 1, R, (A.num .add .i64 n 1), rfl, ?_, rfl⟩
        · skip
          omega
        · skip
          refine ⟨by rw [add_i64 hA (by omega) (by omega)]; omega, by omega, ?_⟩
          rw [unt_at hix2, show keepE _ = false from by simp [keepE, ec3, ec4]]
          exact hR
    · skip
      have ec3 : x2_Kind = 4 := neq_f hA c3
      refine run_aops hA 7 _ _ _ _ (by cbv) ?_
      refine ops_done ?_
      refine go_cond rfl (fun c8 => ?_) (fun c8 => ?_)
      · skip
        exact absurd (show false = true from c8) (by rw [show false = false from by rfl]; decide)
      · skip
        refine go_skip ?_
        refine go_reg ?_
        refine run_aops hA 3 _ _ _ _ (by cbv) ?_
        refine ops_done ?_
        refine ⟨(S9_1 xs_r (A.num .add .i64 n 1) R), List.length xs - (i + 1), ?_, by cbv, i + 1, R, (A.num .add .i64 n 1), rfl, ?_, rfl⟩
        · skip
          omega
        · skip
          refine ⟨by rw [add_i64 hA (by omega) (by omega)]; omega, by omega, ?_⟩
          rw [unt_at hix2, show keepE _ = false from by simp [keepE, ec3]]
          exact hR
  · skip
    have ec1 : (A.rlen xs_r) ≤ n := lss_f hA c1
    refine go_exit ⟨fun _ => ?_, fun h => absurd rfl h⟩
    refine go_seq ?_
    refine go_reg ?_
    refine run_aops hA 2 _ _ _ _ (by cbv) ?_
    refine ops_done ?_
    refine go_ret ⟨_, by cbv, ?_⟩
    show _ = (PV.ow 4 R)
    refine congrArg (PV.ow 4) ?_
    rw [hR, List.take_of_length_le (by omega)]
end Go.Av
