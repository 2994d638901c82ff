/- Walks: numbers. -/
import Derived.Test.YtidedopnpjgkjaaAtab
import Derived.Test.YtidedopnpjgkjaaAvq2
namespace Go.Av
open Go Go.Proofs
set_option maxRecDepth 100000
set_option maxHeartbeats 4000000
set_option linter.unusedVariables false

def lim (n : Int) (k : Nat) : Int := if n - k < 0 then -1 else n - k
def encI (xs : List Int) : List (List PV) := xs.map fun x => [.int .i64 x]

theorem real35 (A : Alg) (hA : A = std) (rows : List (List PV)) (n m : Int) (hm : m = lim n rows.length) (h1 : -1 ≤ n) (h2 : n ≤ 1048576) (hr : rows.length ≤ 9223372036854775807) : Real Try.prog 35 [.sl 1 rows, .int .i64 n] (.int .i64 m) := by
  subst hm
  refine real tyOk Try.func35 (by kernel_rfl) (afun_of rfl ?_)
  refine go_seq ?_
  refine go_reg ?_
  refine run_aops hA 1 _ _ _ _ (by cbv) ?_
  refine ops_done ?_
  refine go_seq ?_
  refine go_reg ?_
  refine run_aops hA 5 _ _ _ _ (by cbv) ?_
  refine ops_done ?_
  refine go_seq ?_
  refine go_seq ?_
  refine go_reg ?_
  refine run_aops hA 2 _ _ _ _ (by cbv) ?_
  refine ops_done ?_
  refine go_cond rfl (fun c1 => ?_) (fun c1 => ?_)
  · skip
    refine go_seq ?_
    refine go_reg ?_
    refine run_aops hA 1 _ _ _ _ (by cbv) ?_
    refine ops_done ?_
    refine go_ret (closed (by cbv) ?_)
    subst hA
    have hw : IntKind.i64.wrap (n - rows.length) = n - rows.length := wrap_id (by omega) (by omega)
    simp only [std, hw, decide_eq_true_eq, decide_eq_false_iff_not] at c1 ⊢
    refine congrArg (PV.int .i64) ?_
    simp only [lim]
    split <;> omega
  · skip
    refine go_skip ?_
    refine go_seq ?_
    refine go_reg ?_
    refine run_aops hA 2 _ _ _ _ (by cbv) ?_
    refine ops_done ?_
    refine go_ret (closed (by cbv) ?_)
    subst hA
    have hw : IntKind.i64.wrap (n - rows.length) = n - rows.length := wrap_id (by omega) (by omega)
    simp only [std, hw, decide_eq_true_eq, decide_eq_false_iff_not] at c1 ⊢
    refine congrArg (PV.int .i64) ?_
    simp only [lim]
    split <;> omega

theorem real36 (A : Alg) (hA : A = std) (x lo hi : Int) (b : Bool) (hb : b = (decide (lo ≤ x) && decide (x ≤ hi))) : Real Try.prog 36 [.int .i64 x, .int .i64 lo, .int .i64 hi] (.bool b) := by
  subst hb
  refine real tyOk Try.func36 (by kernel_rfl) (afun_of rfl ?_)
  refine go_seq ?_
  refine go_reg ?_
  refine run_aops hA 1 _ _ _ _ (by cbv) ?_
  refine ops_done ?_
  refine go_seq ?_
  refine go_reg ?_
  refine run_aops hA 4 _ _ _ _ (by cbv) ?_
  refine ops_split 10 rfl (fun c1 => ?_) (fun c1 => ?_)
  · skip
    refine run_aops hA 5 _ _ _ _ (by cbv) ?_
    refine ops_done ?_
    refine go_ret (closed (by cbv) ?_)
    subst hA
    simp_all [std] <;> (intros; omega)
  · skip
    refine run_aops hA 5 _ _ _ _ (by cbv) ?_
    refine ops_done ?_
    refine go_ret (closed (by cbv) ?_)
    subst hA
    simp_all [std] <;> (intros; omega)

theorem real38 (A : Alg) (hA : A = std) (x lo hi : Int) (b : Bool) (hb : b = (decide (lo ≤ x) && decide (x ≤ hi))) : Real Try.prog 38 [.int .i64 x, .int .i64 lo, .int .i64 hi] (.bool b) := by
  subst hb
  refine real tyOk Try.func38 (by kernel_rfl) (afun_of rfl ?_)
  refine go_seq ?_
  refine go_reg ?_
  refine run_aops hA 1 _ _ _ _ (by cbv) ?_
  refine ops_done ?_
  refine go_seq ?_
  refine go_reg ?_
  refine run_aops hA 4 _ _ _ _ (by cbv) ?_
  refine ops_split 10 rfl (fun c1 => ?_) (fun c1 => ?_)
  · skip
    refine run_aops hA 5 _ _ _ _ (by cbv) ?_
    refine ops_done ?_
    refine go_ret (closed (by cbv) ?_)
    subst hA
    simp_all [std] <;> (intros; omega)
  · skip
    refine run_aops hA 5 _ _ _ _ (by cbv) ?_
    refine ops_done ?_
    refine go_ret (closed (by cbv) ?_)
    subst hA
    simp_all [std] <;> (intros; omega)

def S39 (ra rb : List (List PV)) (z : Int) : St := { sl := [.sl 1 ra, .sl 1 rb, .bad, .bad, .bool false, .int .i64 z, .bad, .bad, .bad, .bad, .bad, .bad, .bad, .bad, .bad, .bad, .bad, .bad, .bad, .bad, .bad, .bad, .bad, .bad, .bad, .bad], bl := [] }

theorem real39 (A : Alg) (hA : A = std) (xs ys : List Int) (b : Bool) (hb : b = (xs == ys)) (hsz : xs.length ≤ 9223372036854775806) : Real Try.prog 39 [.sl 1 (encI xs), .sl 1 (encI ys)] (.bool b) := by
  obtain ⟨ra, hra⟩ : ∃ ra, ra = encI xs := ⟨_, rfl⟩
  obtain ⟨rb, hrb⟩ : ∃ rb, rb = encI ys := ⟨_, rfl⟩
  rw [← hra, ← hrb]
  subst hb
  refine real tyOk Try.func39 (by kernel_rfl) (afun_of rfl ?_)
  refine go_seq ?_
  refine go_reg ?_
  refine run_aops hA 1 _ _ _ _ (by cbv) ?_
  refine ops_done ?_
  refine go_seq ?_
  refine go_seq ?_
  refine go_reg ?_
  refine run_aops hA 5 _ _ _ _ (by cbv) ?_
  refine ops_done ?_
  refine go_cond rfl (fun c1 => ?_) (fun c1 => ?_)
  · skip
    refine go_seq ?_
    refine go_reg ?_
    refine run_aops hA 1 _ _ _ _ (by cbv) ?_
    refine ops_done ?_
    refine go_ret (closed (by cbv) ?_)
    subst hA
    simp [std, hra, hrb, encI] at c1
    refine congrArg PV.bool (beq_eq_false_iff_ne.2 fun he => ?_)
    rw [he] at c1
    exact c1 rfl
  · skip
    refine go_skip ?_
    refine go_seq ?_
    refine go_seq ?_
    refine go_reg ?_
    refine run_aops hA 1 _ _ _ _ (by cbv) ?_
    refine ops_done ?_
    refine go_block ?_
    have hlen : xs.length = ys.length := by
      subst hA
      simp [std, hra, hrb, encI] at c1
      omega
    refine go_loop (fun i => S39 ra rb (Int.ofNat i)) (fun i => xs.take i = ys.take i) xs.length [] [0, 1, 4, 5] [] (by cbv) (by cbv) (by simp) (fun i hi hinv => ?_)
    refine go_seq ?_
    refine go_seq ?_
    refine go_reg ?_
    refine run_aops hA 4 _ _ _ _ (by cbv) ?_
    refine ops_done ?_
    refine go_cond rfl (fun c2 => ?_) (fun c2 => ?_)
    · skip
      refine go_skip ?_
      refine go_seq ?_
      refine go_block ?_
      refine go_seq ?_
      have hlt : i < xs.length := by
        subst hA
        simp [std, hra, encI] at c2
        omega
      obtain ⟨x, hx0⟩ : ∃ x, xs[i]? = some x := ⟨xs[i], by simp [hlt]⟩
      obtain ⟨y, hy0⟩ : ∃ y, ys[i]? = some y := ⟨ys[i]'(by omega), by simp [hlen ▸ hlt]⟩
      have hx : ra[i]? = some [.int .i64 x] := by rw [hra]; simp [encI, hx0]
      have hy : rb[i]? = some [.int .i64 y] := by rw [hrb]; simp [encI, hy0]
      refine go_draw (by cbv) ?_
      refine run_dops hA 2 _ _ _ _ (by cbv) ?_
      refine dops_step rfl rfl rfl (idx_sl rfl rfl rfl rfl rfl (Int.natCast_nonneg i) rfl hx) ?_
      refine run_dops hA 3 _ _ _ _ (by cbv) ?_
      refine dops_step rfl rfl rfl (idx_sl rfl rfl rfl rfl rfl (Int.natCast_nonneg i) rfl hy) ?_
      refine run_dops hA 2 _ _ _ _ (by cbv) ?_
      refine dops_done ?_
      refine go_cond rfl (fun c3 => ?_) (fun c3 => ?_)
      · skip
        refine go_seq ?_
        refine go_reg ?_
        refine run_aops hA 1 _ _ _ _ (by cbv) ?_
        refine ops_done ?_
        refine go_ret (closed (by cbv) ?_)
        subst hA
        simp [std] at c3
        refine congrArg PV.bool (beq_eq_false_iff_ne.2 fun he => ?_)
        rw [he, hy0] at hx0
        exact c3 (Option.some.inj hx0).symm
      · skip
        refine go_skip ?_
        refine go_reg ?_
        refine run_aops hA 3 _ _ _ _ (by cbv) ?_
        refine ops_done ?_
        refine ⟨hlt, ?_, ?_⟩
        · subst hA
          simp [std] at c3
          rw [List.take_add_one, List.take_add_one, hinv, hx0, hy0, c3]
        · have hnum : A.num .add .i64 (Int.ofNat i) 1 = Int.ofNat (i + 1) := by
            subst hA
            exact inc_nat (by omega)
          exact Eq.trans (b := S39 ra rb (A.num .add .i64 (Int.ofNat i) 1)) (by cbv) (congrArg (S39 ra rb) hnum)
    · skip
      refine go_exit ⟨fun _ => ?_, fun h => absurd rfl h⟩
      refine go_seq ?_
      refine go_reg ?_
      refine run_aops hA 1 _ _ _ _ (by cbv) ?_
      refine ops_done ?_
      refine go_ret (closed (by cbv) ?_)
      subst hA
      simp [std, hra, encI] at c2
      refine congrArg PV.bool (beq_iff_eq.2 ?_)
      rw [List.take_of_length_le (by omega), List.take_of_length_le (by omega)] at hinv
      exact hinv

def S37 (ra rows : List (List PV)) (z : Int) : St := { sl := [.sl 1 ra, .bad, .zc, .own 7, .int .i64 z, .bad, .bad, .bad, .bad, .bad, .bad, .bad, .bad, .bad, .bad, .bad, .bad, .bad, .bad, .bad, .bad, .bad], bl := [(7, ⟨.arr, 1, rows⟩)] }

theorem real37 (A : Alg) (hA : A = std) (xs : List Int) (hsz : xs.length ≤ 1048576) : Real Try.prog 37 [.sl 1 (encI xs)] (.ow 1 (encI xs)) := by
  obtain ⟨ra, hra⟩ : ∃ ra, ra = encI xs := ⟨_, rfl⟩
  obtain ⟨R, hR⟩ : ∃ R : Nat → List (List PV), ∀ i, R i = fill (fun x => [PV.int .i64 x]) [.int .i64 0] xs i := ⟨_, fun _ => rfl⟩
  have hal : A.rlen ra = (xs.length : Int) := by subst hA; simp [std, hra, encI]
  have hn : 0 ≤ A.rlen ra := by rw [hal]; omega
  have hmax : A.rlen ra * 8 ≤ 140737488355328 := by rw [hal]; omega
  have hR0 : R 0 = List.replicate (A.rlen ra).toNat [.int .i64 0] := by rw [hR, fill_zero, hal]; rfl
  rw [← hra]
  refine real tyOk Try.func37 (by kernel_rfl) (afun_of rfl ?_)
  refine go_seq ?_
  refine go_reg ?_
  refine run_aops hA 1 _ _ _ _ (by cbv) ?_
  refine ops_done ?_
  refine go_seq ?_
  refine go_reg ?_
  refine run_aops hA 2 _ _ _ _ (by cbv) ?_
  refine ops_step rfl rfl (mk_arr rfl rfl rfl rfl rfl rfl hn hmax (by decide) (by decide) rfl hR0) ?_
  refine run_aops hA 1 _ _ _ _ (by cbv) ?_
  refine ops_done ?_
  refine go_seq ?_
  refine go_seq ?_
  refine go_reg ?_
  refine run_aops hA 1 _ _ _ _ (by cbv) ?_
  refine ops_done ?_
  refine go_block ?_
  refine go_loop (fun i => S37 ra (R i) (Int.ofNat i)) (fun i => True) xs.length [] [0, 2, 3, 4] [7] (by cbv) (by cbv) trivial (fun i hi hinv => ?_)
  refine go_seq ?_
  refine go_seq ?_
  refine go_reg ?_
  refine run_aops hA 4 _ _ _ _ (by cbv) ?_
  refine ops_done ?_
  refine go_cond rfl (fun c1 => ?_) (fun c1 => ?_)
  · skip
    refine go_skip ?_
    refine go_seq ?_
    refine go_block ?_
    have hlt : i < xs.length := by
      subst hA
      simp [std, hra, encI] at c1
      omega
    obtain ⟨x, hx0⟩ : ∃ x, xs[i]? = some x := ⟨xs[i], by simp [hlt]⟩
    have hx : ra[i]? = some [.int .i64 x] := by rw [hra]; simp [encI, hx0]
    refine go_reg ?_
    refine run_aops hA 4 _ _ _ _ (by cbv) ?_
    refine ops_step rfl rfl (idx_sl rfl rfl rfl rfl rfl (Int.natCast_nonneg i) rfl hx) ?_
    refine run_aops hA 1 _ _ _ _ (by cbv) ?_
    refine ops_step rfl rfl (idx_own rfl rfl rfl rfl rfl rfl (Int.natCast_nonneg i) (by show (Int.ofNat i) < ((R i).length : Int); rw [hR, fill_len _ _ _ hi]; exact Int.ofNat_lt.2 hlt) rfl) ?_
    refine ops_step rfl rfl (sto_arr rfl rfl rfl rfl rfl ⟨_, _, rfl⟩ rfl rfl (by show (R i)[i]? = _; rw [hR]; exact fill_at _ _ _ hlt) rfl (by show R (i + 1) = (R i).set i [.int .i64 x]; rw [hR, hR]; exact (fill_set (fun x => [PV.int .i64 x]) _ xs hx0).symm)) ?_
    refine ops_done ?_
    refine go_reg ?_
    refine run_aops hA 3 _ _ _ _ (by cbv) ?_
    refine ops_done ?_
    refine ⟨hlt, trivial, ?_⟩
    have hnum : A.num .add .i64 (Int.ofNat i) 1 = Int.ofNat (i + 1) := by
      subst hA
      exact inc_nat (by omega)
    exact Eq.trans (b := S37 ra (R (i + 1)) (A.num .add .i64 (Int.ofNat i) 1)) (by cbv) (congrArg (S37 ra (R (i + 1))) hnum)
  · skip
    refine go_exit ⟨fun _ => ?_, fun h => absurd rfl h⟩
    refine go_seq ?_
    refine go_reg ?_
    refine run_aops hA 2 _ _ _ _ (by cbv) ?_
    refine ops_done ?_
    refine go_ret (closed (by cbv) ?_)
    subst hA
    simp [std, hra, encI] at c1
    refine congrArg (PV.ow 1) ?_
    rw [hR, fill_all _ _ _ (by omega), hra]
    rfl
end Go.Av

