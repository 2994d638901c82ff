/- Walks: lists of mails. -/
import Derived.Test.YtidedopnpjgkjaaW4
namespace Go.Av
open Go Go.Proofs
set_option maxRecDepth 100000
set_option maxHeartbeats 4000000
set_option linter.unusedVariables false
set_option linter.unusedSimpArgs false

def encMailO (x : Mail) : List PV := encMail x

def S73 (ra rows : List (List PV)) (z : Int) : St := { sl := [.sl 3 ra, .bad, .zc, .own 7, .int .i64 z, .bad, .bad, .bad, .bad, .bad, .bad, .bad, .bad, .bad, .bad, .bad, .bad, .bad, .bad, .bad, .bad, .bad, .bad], bl := [(7, ⟨.arr, 3, rows⟩)] }
def z73 : List PV := [.int .i64 0, .int .i64 0, .str ByteArray.empty]

theorem real73 (A : Alg) (hA : A = std) (xs : List Mail) (ra : List (List PV)) (hra : ra = xs.map encMail) (hsz : xs.length ≤ 1048576) (hto : ∀ x ∈ xs, Real Try.prog 83 [.agg (encMail x)] (.agg (encMailO x))) :
    Real Try.prog 73 [.sl 3 ra] (.ow 3 (xs.map encMailO)) := by
  obtain ⟨R, hR⟩ : ∃ R : Nat → List (List PV), ∀ i, R i = fill encMailO z73 xs i := ⟨_, fun _ => rfl⟩
  have hal : A.rlen ra = (xs.length : Int) := by subst hA; simp [std, hra]
  have hn : 0 ≤ A.rlen ra := by rw [hal]; omega
  have hmax : A.rlen ra * 32 ≤ 140737488355328 := by rw [hal]; omega
  have hR0 : R 0 = List.replicate (A.rlen ra).toNat z73 := by rw [hR, fill_zero, hal]; rfl
  refine real tyOk Try.func73 (by kernel_rfl) (afun_of rfl ?_)
  refine go_seq ?_
  refine go_reg ?_
  refine run_aops hA 1 _ _ _ _ (by cbv) ?_
  refine ops_done ?_
  refine go_seq ?_
  refine go_reg ?_
  refine run_aops hA 2 _ _ _ _ (by cbv) ?_
  refine ops_step rfl rfl (mk_arr rfl rfl rfl rfl rfl rfl hn hmax (by decide) (by decide) rfl hR0) ?_
  refine run_aops hA 1 _ _ _ _ (by cbv) ?_
  refine ops_done ?_
  refine go_seq ?_
  refine go_seq ?_
  refine go_reg ?_
  refine run_aops hA 1 _ _ _ _ (by cbv) ?_
  refine ops_done ?_
  refine go_block ?_
  refine go_loop (fun i => S73 ra (R i) (Int.ofNat i)) (fun i => True) xs.length [] [0, 2, 3, 4] [7] rfl (by cbv) trivial (fun i hi hinv => ?_)
  refine go_seq ?_
  refine go_seq ?_
  refine go_reg ?_
  refine run_aops hA 4 _ _ _ _ (by cbv) ?_
  refine ops_done ?_
  refine go_cond rfl (fun c1 => ?_) (fun c1 => ?_)
  · skip
    refine go_skip ?_
    refine go_seq ?_
    refine go_block ?_
    have hlt : i < xs.length := by
      have c1 : A.cmp .lss (Int.ofNat i) (A.rlen ra) = true := c1
      rw [hal] at c1
      subst hA
      simp only [std, decide_eq_true_eq] at c1
      exact Int.ofNat_lt.1 c1
    obtain ⟨x, hx0⟩ : ∃ x, xs[i]? = some x := ⟨xs[i], by simp [hlt]⟩
    have hx := map_at encMail hra hx0
    have hcal := hto x (List.mem_of_getElem? hx0)
    have hz : (R i)[i]? = some z73 := by rw [hR]; exact fill_at _ _ _ hlt
    have hset : R (i + 1) = (R i).set i (encMailO x) := by rw [hR, hR]; exact (fill_set encMailO _ xs hx0).symm
    refine go_reg ?_
    refine run_aops hA 4 _ _ _ _ (by cbv) ?_
    refine ops_step rfl rfl (idx_sl rfl rfl rfl rfl rfl (Int.natCast_nonneg i) rfl hx) ?_
    refine run_aops hA 1 _ _ _ _ (by cbv) ?_
    refine ops_callV rfl rfl (by cbv) (by cbv) hcal (.inr rfl) (by cbv) ?_
    refine ops_step rfl rfl (idx_own rfl rfl rfl rfl rfl rfl (Int.natCast_nonneg i) (by show (Int.ofNat i) < ((R i).length : Int); rw [hR, fill_len _ _ _ hi]; exact Int.ofNat_lt.2 hlt) rfl) ?_
    refine ops_step rfl rfl (sto_arr (r := z73) (cs := encMailO x) rfl rfl rfl rfl rfl ⟨_, _, rfl⟩ rfl rfl hz rfl hset) ?_
    refine ops_done ?_
    refine go_reg ?_
    refine run_aops hA 3 _ _ _ _ (by cbv) ?_
    refine ops_done ?_
    refine ⟨hlt, trivial, ?_⟩
    have hnum : A.num .add .i64 (Int.ofNat i) 1 = Int.ofNat (i + 1) := by
      subst hA
      exact inc_nat (by omega)
    exact Eq.trans (b := S73 ra (R (i + 1)) (A.num .add .i64 (Int.ofNat i) 1)) (by cbv) (congrArg (S73 ra (R (i + 1))) hnum)
  · skip
    refine go_exit ⟨fun _ => ?_, fun h => absurd rfl h⟩
    refine go_seq ?_
    refine go_reg ?_
    refine run_aops hA 2 _ _ _ _ (by cbv) ?_
    refine ops_done ?_
    refine go_ret (closed (by cbv) ?_)
    refine congrArg (PV.ow 3) ?_
    have hge2 : xs.length ≤ i := by
      have c1 : A.cmp .lss (Int.ofNat i) (A.rlen ra) = false := c1
      rw [hal] at c1
      subst hA
      simp only [std, decide_eq_false_iff_not] at c1
      exact Nat.le_of_not_lt fun h => c1 (Int.ofNat_lt.2 h)
    rw [hR, fill_all _ _ _ hge2]

def S74 (ra : List (List PV)) (z : Int) : St := { sl := [.sl 3 ra, .sl 3 ra, .bad, .bad, .bool false, .int .i64 z, .bad, .bad, .bad, .bad, .bad, .bad, .bad, .bad, .bad, .bad, .bad, .bad, .bad, .bad, .bad, .bad, .bad, .bad, .bad, .bad, .bad], bl := [] }

theorem real74 (A : Alg) (hA : A = std) (xs : List Mail) (ra : List (List PV)) (hra : ra = xs.map encMail) (hsz : xs.length ≤ 1048576) (heq : ∀ x ∈ xs, Real Try.prog 84 [.agg (encMail x), .agg (encMail x)] (.bool true)) :
    Real Try.prog 74 [.sl 3 ra, .sl 3 ra] (.bool true) := by
  have hal : A.rlen ra = (xs.length : Int) := by subst hA; simp [std, hra]
  refine real tyOk Try.func74 (by kernel_rfl) (afun_of rfl ?_)
  refine go_seq ?_
  refine go_reg ?_
  refine run_aops hA 1 _ _ _ _ (by cbv) ?_
  refine ops_done ?_
  refine go_seq ?_
  refine go_seq ?_
  refine go_reg ?_
  refine run_aops hA 5 _ _ _ _ (by cbv) ?_
  refine ops_done ?_
  refine go_cond rfl (fun c1 => ?_) (fun c1 => ?_)
  · skip
    refine go_seq ?_
    refine go_reg ?_
    refine run_aops hA 1 _ _ _ _ (by cbv) ?_
    refine ops_done ?_
    refine go_ret (closed (by cbv) ?_)
    subst hA
    simp [std] at c1
  · skip
    refine go_skip ?_
    refine go_seq ?_
    refine go_seq ?_
    refine go_reg ?_
    refine run_aops hA 1 _ _ _ _ (by cbv) ?_
    refine ops_done ?_
    refine go_block ?_
    refine go_loop (fun i => S74 ra (Int.ofNat i)) (fun i => True) xs.length [] [0, 1, 4, 5] [] rfl (by cbv) trivial (fun i hi hinv => ?_)
    refine go_seq ?_
    refine go_seq ?_
    refine go_reg ?_
    refine run_aops hA 4 _ _ _ _ (by cbv) ?_
    refine ops_done ?_
    refine go_cond rfl (fun c2 => ?_) (fun c2 => ?_)
    · skip
      refine go_skip ?_
      refine go_seq ?_
      refine go_block ?_
      refine go_seq ?_
      have hlt : i < xs.length := by
        have c2 : A.cmp .lss (Int.ofNat i) (A.rlen ra) = true := c2
        rw [hal] at c2
        subst hA
        simp only [std, decide_eq_true_eq] at c2
        exact Int.ofNat_lt.1 c2
      obtain ⟨x, hx0⟩ : ∃ x, xs[i]? = some x := ⟨xs[i], by simp [hlt]⟩
      have hx := map_at encMail hra hx0
      have hcal := heq x (List.mem_of_getElem? hx0)
      refine go_draw (by cbv) ?_
      refine run_dops hA 2 _ _ _ _ (by cbv) ?_
      refine dops_step rfl rfl rfl (idx_sl rfl rfl rfl rfl rfl (Int.natCast_nonneg i) rfl hx) ?_
      refine run_dops hA 3 _ _ _ _ (by cbv) ?_
      refine dops_step rfl rfl rfl (idx_sl rfl rfl rfl rfl rfl (Int.natCast_nonneg i) rfl hx) ?_
      refine run_dops hA 1 _ _ _ _ (by cbv) ?_
      refine dops_callV rfl rfl (by cbv) (by cbv) hcal (.inl trivial) ?_
      refine run_dops hA 1 _ _ _ _ (by cbv) ?_
      refine dops_done ?_
      refine go_cond rfl (fun c3 => ?_) (fun c3 => ?_)
      · skip
        refine go_seq ?_
        refine go_reg ?_
        refine run_aops hA 1 _ _ _ _ (by cbv) ?_
        refine ops_done ?_
        refine go_ret (closed (by cbv) ?_)
        subst hA
        simp [std] at c3
      · skip
        refine go_skip ?_
        refine go_reg ?_
        refine run_aops hA 3 _ _ _ _ (by cbv) ?_
        refine ops_done ?_
        refine ⟨hlt, trivial, ?_⟩
        have hnum : A.num .add .i64 (Int.ofNat i) 1 = Int.ofNat (i + 1) := by
          subst hA
          exact inc_nat (by omega)
        exact Eq.trans (b := S74 ra (A.num .add .i64 (Int.ofNat i) 1)) (by cbv) (congrArg (S74 ra) hnum)
    · skip
      refine go_exit ⟨fun _ => ?_, fun h => absurd rfl h⟩
      refine go_seq ?_
      refine go_reg ?_
      refine run_aops hA 1 _ _ _ _ (by cbv) ?_
      refine ops_done ?_
      refine go_ret (closed (by cbv) ?_)
      rfl

end Go.Av

