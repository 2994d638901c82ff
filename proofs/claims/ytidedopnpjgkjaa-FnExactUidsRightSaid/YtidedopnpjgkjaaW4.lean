/- Walks: mails. -/
import Derived.Test.YtidedopnpjgkjaaAtab
import Derived.Test.YtidedopnpjgkjaaAvq3
namespace Go.Av
open Go Go.Proofs
set_option maxRecDepth 100000
set_option maxHeartbeats 4000000
set_option linter.unusedVariables false
set_option linter.unusedSimpArgs false

structure Mail where
  uid : Int
  flag : Int
  text : ByteArray

def encMail (x : Mail) : List PV := [.int .i64 x.uid, .int .i64 x.flag, .str x.text]
def szMail (x : Mail) : List Nat := [x.text.size]
def szMailS (xs : List Mail) : List Nat := xs.length :: xs.flatMap szMail

theorem real82 (A : Alg) (hA : A = std) (x : Mail) (n m : Int) (hm : m = chain n (szMail x)) (h1 : -1 ≤ n) (h2 : n ≤ 1048576) (ht : x.text.size ≤ 9223372036854775807) :
    Real Try.prog 82 [.agg (encMail x), .int .i64 n] (.int .i64 m) := by
  subst hm
  obtain ⟨uid, flag, text⟩ := x
  have ht : text.size ≤ 9223372036854775807 := ht
  refine real tyOk Try.func82 (by kernel_rfl) (afun_of rfl ?_)
  refine go_seq ?_
  refine go_reg ?_
  refine run_aops hA 2 _ _ _ _ (by cbv) ?_
  refine ops_done ?_
  refine go_seq ?_
  refine go_reg ?_
  refine run_aops hA 6 _ _ _ _ (by cbv) ?_
  refine ops_done ?_
  refine go_seq ?_
  refine go_seq ?_
  refine go_reg ?_
  refine run_aops hA 2 _ _ _ _ (by cbv) ?_
  refine ops_done ?_
  refine go_cond rfl (fun c1 => ?_) (fun c1 => ?_)
  · skip
    refine go_seq ?_
    refine go_reg ?_
    refine run_aops hA 1 _ _ _ _ (by cbv) ?_
    refine ops_done ?_
    refine go_ret (closed (by cbv) ?_)
    subst hA
    have hw := @wrap_id (n - text.size) (by omega) (by omega)
    simp only [std, hw, decide_eq_true_eq, decide_eq_false_iff_not] at c1 ⊢
    refine congrArg (PV.int .i64) ?_
    simp only [szMail, chain]
    split <;> first | rfl | omega
  · skip
    refine go_skip ?_
    refine go_seq ?_
    refine go_reg ?_
    refine run_aops hA 2 _ _ _ _ (by cbv) ?_
    refine ops_done ?_
    refine go_ret (closed (by cbv) ?_)
    subst hA
    have hw := @wrap_id (n - text.size) (by omega) (by omega)
    simp only [std, hw, decide_eq_true_eq, decide_eq_false_iff_not] at c1 ⊢
    refine congrArg (PV.int .i64) ?_
    simp only [szMail, chain]
    split <;> first | rfl | omega

theorem real83 (A : Alg) (hA : A = std) (x : Mail) : Real Try.prog 83 [.agg (encMail x)] (.agg (encMail x)) := by
  obtain ⟨uid, flag, text⟩ := x
  refine real tyOk Try.func83 (by kernel_rfl) (afun_of rfl ?_)
  refine go_seq ?_
  refine go_reg ?_
  refine run_aops hA 2 _ _ _ _ (by cbv) ?_
  refine ops_done ?_
  refine go_seq ?_
  refine go_reg ?_
  refine run_aops hA 1 _ _ _ _ (by cbv) ?_
  refine ops_done ?_
  refine go_seq ?_
  refine go_reg ?_
  refine run_aops hA 4 _ _ _ _ (by cbv) ?_
  refine ops_done ?_
  refine go_seq ?_
  refine go_reg ?_
  refine run_aops hA 4 _ _ _ _ (by cbv) ?_
  refine ops_done ?_
  refine go_seq ?_
  refine go_reg ?_
  refine run_aops hA 4 _ _ _ _ (by cbv) ?_
  refine ops_done ?_
  refine go_seq ?_
  refine go_reg ?_
  refine run_aops hA 2 _ _ _ _ (by cbv) ?_
  refine ops_done ?_
  refine go_ret (closed (by cbv) ?_)
  rfl

theorem real84 (A : Alg) (hA : A = std) (x : Mail) : Real Try.prog 84 [.agg (encMail x), .agg (encMail x)] (.bool true) := by
  obtain ⟨uid, flag, text⟩ := x
  refine real tyOk Try.func84 (by kernel_rfl) (afun_of rfl ?_)
  refine go_seq ?_
  refine go_reg ?_
  refine run_aops hA 3 _ _ _ _ (by cbv) ?_
  refine ops_done ?_
  refine go_seq ?_
  refine go_seq ?_
  refine go_reg ?_
  refine run_aops hA 5 _ _ _ _ (by cbv) ?_
  refine ops_done ?_
  refine go_cond rfl (fun c1 => ?_) (fun c1 => ?_)
  · skip
    refine go_seq ?_
    refine go_reg ?_
    refine run_aops hA 1 _ _ _ _ (by cbv) ?_
    refine ops_done ?_
    refine go_ret (closed (by cbv) ?_)
    first
      | rfl
      | (subst hA; simp [std] at *)
  · skip
    refine go_skip ?_
    refine go_seq ?_
    refine go_seq ?_
    refine go_reg ?_
    refine run_aops hA 5 _ _ _ _ (by cbv) ?_
    refine ops_done ?_
    refine go_cond rfl (fun c2 => ?_) (fun c2 => ?_)
    · skip
      refine go_seq ?_
      refine go_reg ?_
      refine run_aops hA 1 _ _ _ _ (by cbv) ?_
      refine ops_done ?_
      refine go_ret (closed (by cbv) ?_)
      first
        | rfl
        | (subst hA; simp [std] at *)
    · skip
      refine go_skip ?_
      refine go_seq ?_
      refine go_seq ?_
      refine go_reg ?_
      refine run_aops hA 5 _ _ _ _ (by cbv) ?_
      refine ops_done ?_
      refine go_cond rfl (fun c3 => ?_) (fun c3 => ?_)
      · skip
        refine go_seq ?_
        refine go_reg ?_
        refine run_aops hA 1 _ _ _ _ (by cbv) ?_
        refine ops_done ?_
        refine go_ret (closed (by cbv) ?_)
        first
          | rfl
          | (subst hA; simp [std] at *)
      · skip
        refine go_skip ?_
        refine go_seq ?_
        refine go_reg ?_
        refine run_aops hA 1 _ _ _ _ (by cbv) ?_
        refine ops_done ?_
        refine go_ret (closed (by cbv) ?_)
        first
          | rfl
          | (subst hA; simp [std] at *)

def S72 (ra : List (List PV)) (l z : Int) : St := { sl := [.sl 3 ra, .int .i64 l, .bad, .bad, .int .i64 0, .int .i64 z, .bad, .bad, .bad, .bad, .bad, .bad, .bad, .bad, .bad, .bad, .bad, .bad, .bad, .bad, .bad, .bad, .bad, .bad, .bad, .bad, .bad], bl := [] }

theorem real72 (A : Alg) (hA : A = std) (xs : List Mail) (ra : List (List PV)) (hra : ra = xs.map encMail) (n m : Int) (hm : m = chain n (szMailS xs)) (h1 : -1 ≤ n) (h2 : n ≤ 1048576) (hok : ∀ k ∈ szMailS xs, k ≤ 9223372036854775807) :
    Real Try.prog 72 [.sl 3 ra, .int .i64 n] (.int .i64 m) := by
  subst hm
  refine real tyOk Try.func72 (by kernel_rfl) (afun_of rfl ?_)
  refine go_seq ?_
  refine go_reg ?_
  refine run_aops hA 1 _ _ _ _ (by cbv) ?_
  refine ops_done ?_
  refine go_seq ?_
  refine go_reg ?_
  refine run_aops hA 5 _ _ _ _ (by cbv) ?_
  refine ops_done ?_
  refine go_seq ?_
  refine go_seq ?_
  have hrl : A.rlen ra = (xs.length : Int) := by subst hA; simp [std, hra]
  have hw : A.num .sub .i64 n (A.rlen ra) = n - xs.length := by
    rw [hrl]; subst hA
    exact sub_std h1 h2 (hok _ (by simp [szMailS]))
  refine go_reg ?_
  refine run_aops hA 2 _ _ _ _ (by cbv) ?_
  refine ops_done ?_
  refine go_cond rfl (fun c1 => ?_) (fun c1 => ?_)
  · skip
    refine go_seq ?_
    refine go_reg ?_
    refine run_aops hA 1 _ _ _ _ (by cbv) ?_
    refine ops_done ?_
    refine go_ret (closed (by cbv) ?_)
    refine congrArg (PV.int .i64) ?_
    have c1 : A.cmp .lss (A.num .sub .i64 n (A.rlen ra)) 0 = true := c1
    rw [hw] at c1
    subst hA
    simp only [std, decide_eq_true_eq] at c1
    rw [szMailS, chain_cons, if_pos c1]
  · skip
    refine go_skip ?_
    refine go_seq ?_
    refine go_seq ?_
    have hge : ¬ n - xs.length < 0 := by
      have c1 : A.cmp .lss (A.num .sub .i64 n (A.rlen ra)) 0 = false := c1
      rw [hw] at c1
      subst hA
      simpa only [std, decide_eq_false_iff_not] using c1
    obtain ⟨L, hL⟩ : ∃ L : Nat → Int, ∀ i, L i = chain (n - xs.length) ((xs.take i).flatMap szMail) := ⟨_, fun _ => rfl⟩
    have hL0 : A.num .sub .i64 n (A.rlen ra) = L 0 := by rw [hw, hL]; rfl
    refine go_reg ?_
    refine run_aops hA 1 _ _ _ _ (by cbv) ?_
    refine ops_done ?_
    refine go_block ?_
    refine go_loop (fun i => S72 ra (L i) (Int.ofNat i)) (fun i => 0 ≤ L i) xs.length [] [0, 1, 4, 5] [] rfl (Eq.trans (b := S72 ra (A.num .sub .i64 n (A.rlen ra)) (Int.ofNat 0)) (by cbv) (by rw [hL0])) (by rw [hL]; simp [chain]; omega) (fun i hi hinv => ?_)
    refine go_seq ?_
    refine go_seq ?_
    refine go_reg ?_
    refine run_aops hA 4 _ _ _ _ (by cbv) ?_
    refine ops_done ?_
    refine go_cond rfl (fun c2 => ?_) (fun c2 => ?_)
    · skip
      refine go_skip ?_
      refine go_seq ?_
      refine go_block ?_
      refine go_seq ?_
      have hlt : i < xs.length := by
        have c2 : A.cmp .lss (Int.ofNat i) (A.rlen ra) = true := c2
        rw [hrl] at c2
        subst hA
        simp only [std, decide_eq_true_eq] at c2
        exact Int.ofNat_lt.1 c2
      obtain ⟨x, hx0⟩ : ∃ x, xs[i]? = some x := ⟨xs[i], by simp [hlt]⟩
      have hx := map_at encMail hra hx0
      have hLs : L (i + 1) = chain (L i) (szMail x) := by
        rw [hL, hL, take_flat szMail xs hx0]
        exact chain_app _ _ _ (by rw [← hL]; exact hinv)
      have hLle : L i ≤ 1048576 := by
        have := chain_le ((xs.take i).flatMap szMail) (n - xs.length) (by omega)
        rw [← hL] at this
        omega
      have hok' : ∀ k ∈ szMail x, k ≤ 9223372036854775807 := fun k hk => hok k (by
        rw [szMailS]
        exact List.mem_cons_of_mem _ (List.mem_flatMap.2 ⟨x, List.mem_of_getElem? hx0, hk⟩))
      have h82 := real82 A hA x (L i) (L (i + 1)) hLs (by omega) hLle (hok' _ (by simp [szMail]))
      refine go_reg ?_
      refine run_aops hA 2 _ _ _ _ (by cbv) ?_
      refine ops_step rfl rfl (idx_sl rfl rfl rfl rfl rfl (Int.natCast_nonneg i) rfl hx) ?_
      refine run_aops hA 2 _ _ _ _ (by cbv) ?_
      refine ops_callV rfl rfl (by cbv) (by cbv) h82 (.inl trivial) (by cbv) ?_
      refine run_aops hA 1 _ _ _ _ (by cbv) ?_
      refine ops_done ?_
      refine go_seq ?_
      refine go_reg ?_
      refine run_aops hA 2 _ _ _ _ (by cbv) ?_
      refine ops_done ?_
      refine go_cond rfl (fun c3 => ?_) (fun c3 => ?_)
      · skip
        refine go_seq ?_
        refine go_reg ?_
        refine run_aops hA 1 _ _ _ _ (by cbv) ?_
        refine ops_done ?_
        refine go_ret (closed (by cbv) ?_)
        refine congrArg (PV.int .i64) ?_
        have hneg : L (i + 1) < 0 := by
          subst hA
          simpa only [std, decide_eq_true_eq] using c3
        rw [szMailS, chain_cons, if_neg hge, flat_split szMail xs (i + 1)]
        rw [hL] at hneg
        exact chain_neg _ _ _ (by omega) hneg
      · skip
        refine go_skip ?_
        refine go_reg ?_
        refine run_aops hA 3 _ _ _ _ (by cbv) ?_
        refine ops_done ?_
        have hnn : 0 ≤ L (i + 1) := by
          subst hA
          simp only [std, decide_eq_false_iff_not] at c3
          omega
        refine ⟨hlt, hnn, ?_⟩
        have hnum : A.num .add .i64 (Int.ofNat i) 1 = Int.ofNat (i + 1) := by
          subst hA
          exact inc_nat (by have := hok xs.length (by simp [szMailS]); omega)
        exact Eq.trans (b := S72 ra (L (i + 1)) (A.num .add .i64 (Int.ofNat i) 1)) (by cbv) (congrArg (S72 ra (L (i + 1))) hnum)
    · skip
      refine go_exit ⟨fun _ => ?_, fun h => absurd rfl h⟩
      refine go_seq ?_
      refine go_reg ?_
      refine run_aops hA 2 _ _ _ _ (by cbv) ?_
      refine ops_done ?_
      refine go_ret (closed (by cbv) ?_)
      refine congrArg (PV.int .i64) ?_
      have hge2 : xs.length ≤ i := by
        have c2 : A.cmp .lss (Int.ofNat i) (A.rlen ra) = false := c2
        rw [hrl] at c2
        subst hA
        simp only [std, decide_eq_false_iff_not] at c2
        exact Nat.le_of_not_lt fun h => c2 (Int.ofNat_lt.2 h)
      rw [szMailS, chain_cons, if_neg hge, hL, List.take_of_length_le hge2]
end Go.Av

