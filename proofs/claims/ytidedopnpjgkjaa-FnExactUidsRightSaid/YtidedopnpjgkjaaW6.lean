/- Walks: boxes, states. -/
import Derived.Test.YtidedopnpjgkjaaW5
namespace Go.Av
open Go Go.Proofs
set_option maxRecDepth 100000
set_option maxHeartbeats 4000000
set_option linter.unusedVariables false
set_option linter.unusedSimpArgs false

structure Box where
  id : Int
  name : ByteArray
  tag : ByteArray
  next : Int
  mails : List Mail
  mrows : List (List PV)
  hm : mrows = mails.map encMail

def encBox (x : Box) : List PV := [.int .i64 x.id, .str x.name, .str x.tag, .int .i64 x.next, .sl 3 x.mrows]
def encBoxO (x : Box) : List PV := [.int .i64 x.id, .str x.name, .str x.tag, .int .i64 x.next, .ow 3 x.mrows]
def szBox (x : Box) : List Nat := x.name.size :: x.tag.size :: szMailS x.mails
def szBoxS (xs : List Box) : List Nat := xs.length :: xs.flatMap szBox

theorem erase_mrows {mails : List Mail} {mrows : List (List PV)} (hm : mrows = mails.map encMail) : eraseR mrows = mrows := by
  rw [hm]; exact eraseR_map encMail encMail (fun x => rfl) mails

theorem real57 (A : Alg) (hA : A = std) (x : Box) (n m : Int) (hm : m = chain n (szBox x)) (h1 : -1 ≤ n) (h2 : n ≤ 1048576) (hok : ∀ k ∈ szBox x, k ≤ 9223372036854775807) :
    Real Try.prog 57 [.agg (encBox x), .int .i64 n] (.int .i64 m) := by
  subst hm
  obtain ⟨id, name, tag, next, mails, mrows, hm⟩ := x
  simp only [szBox] at hok ⊢
  refine real tyOk Try.func57 (by kernel_rfl) (afun_of rfl ?_)
  refine go_seq ?_
  refine go_reg ?_
  refine run_aops hA 2 _ _ _ _ (by cbv) ?_
  refine ops_done ?_
  refine go_seq ?_
  refine go_reg ?_
  refine run_aops hA 6 _ _ _ _ (by cbv) ?_
  refine ops_done ?_
  refine go_seq ?_
  refine go_seq ?_
  refine go_reg ?_
  refine run_aops hA 2 _ _ _ _ (by cbv) ?_
  refine ops_done ?_
  refine go_cond rfl (fun c1 => ?_) (fun c1 => ?_)
  · skip
    refine go_seq ?_
    refine go_reg ?_
    refine run_aops hA 1 _ _ _ _ (by cbv) ?_
    refine ops_done ?_
    refine go_ret (closed (by cbv) ?_)
    refine congrArg (PV.int .i64) ?_
    have hw1 : A.num .sub .i64 n (A.slen name) = n - name.size := by
      subst hA; exact sub_std h1 h2 (hok _ (by simp))
    have c1 : A.cmp .lss (A.num .sub .i64 n (A.slen name)) 0 = true := c1
    rw [hw1] at c1
    subst hA
    simp only [std, decide_eq_true_eq] at c1
    rw [chain_cons, if_pos c1]
  · skip
    refine go_skip ?_
    refine go_seq ?_
    have hw1 : A.num .sub .i64 n (A.slen name) = n - name.size := by
      subst hA; exact sub_std h1 h2 (hok _ (by simp))
    have hge1 : ¬ n - name.size < 0 := by
      have c1 : A.cmp .lss (A.num .sub .i64 n (A.slen name)) 0 = false := c1
      rw [hw1] at c1
      subst hA
      simpa only [std, decide_eq_false_iff_not] using c1
    refine go_reg ?_
    refine run_aops hA 6 _ _ _ _ (by cbv) ?_
    refine ops_done ?_
    refine go_seq ?_
    refine go_seq ?_
    have hw2 : A.num .sub .i64 (A.num .sub .i64 n (A.slen name)) (A.slen tag) = n - name.size - tag.size := by
      rw [hw1]; subst hA; exact sub_std (by omega) (by omega) (hok _ (by simp))
    refine go_reg ?_
    refine run_aops hA 2 _ _ _ _ (by cbv) ?_
    refine ops_done ?_
    refine go_cond rfl (fun c2 => ?_) (fun c2 => ?_)
    · skip
      refine go_seq ?_
      refine go_reg ?_
      refine run_aops hA 1 _ _ _ _ (by cbv) ?_
      refine ops_done ?_
      refine go_ret (closed (by cbv) ?_)
      refine congrArg (PV.int .i64) ?_
      have c2 : A.cmp .lss (A.num .sub .i64 (A.num .sub .i64 n (A.slen name)) (A.slen tag)) 0 = true := c2
      rw [hw2] at c2
      subst hA
      simp only [std, decide_eq_true_eq] at c2
      rw [chain_cons, if_neg hge1, chain_cons, if_pos c2]
    · skip
      refine go_skip ?_
      refine go_seq ?_
      have hge2 : ¬ n - name.size - tag.size < 0 := by
        have c2 : A.cmp .lss (A.num .sub .i64 (A.num .sub .i64 n (A.slen name)) (A.slen tag)) 0 = false := c2
        rw [hw2] at c2
        subst hA
        simpa only [std, decide_eq_false_iff_not] using c2
      obtain ⟨m', hm'⟩ : ∃ m', m' = chain (A.num .sub .i64 (A.num .sub .i64 n (A.slen name)) (A.slen tag)) (szMailS mails) := ⟨_, rfl⟩
      have hcal := real72 A hA mails mrows hm _ m' hm' (by rw [hw2]; omega) (by rw [hw2]; omega) (fun k hk => hok k (by simp [hk]))
      rw [hw2] at hm'
      have hfin : chain n (name.size :: tag.size :: szMailS mails) = m' := by rw [chain_cons, if_neg hge1, chain_cons, if_neg hge2, hm']
      refine go_reg ?_
      refine run_aops hA 3 _ _ _ _ (by cbv) ?_
      refine ops_callV rfl rfl (by cbv) (by cbv) hcal (.inl trivial) (by cbv) ?_
      refine run_aops hA 1 _ _ _ _ (by cbv) ?_
      refine ops_done ?_
      refine go_seq ?_
      refine go_seq ?_
      refine go_reg ?_
      refine run_aops hA 2 _ _ _ _ (by cbv) ?_
      refine ops_done ?_
      refine go_cond rfl (fun c3 => ?_) (fun c3 => ?_)
      · skip
        refine go_seq ?_
        refine go_reg ?_
        refine run_aops hA 1 _ _ _ _ (by cbv) ?_
        refine ops_done ?_
        refine go_ret (closed (by cbv) ?_)
        refine congrArg (PV.int .i64) ?_
        rw [hfin]
        subst hA
        simp only [std, decide_eq_true_eq] at c3
        rw [hm'] at c3 ⊢
        exact chain_m1 (by omega) c3
      · skip
        refine go_skip ?_
        refine go_seq ?_
        refine go_reg ?_
        refine run_aops hA 2 _ _ _ _ (by cbv) ?_
        refine ops_done ?_
        refine go_ret (closed (by cbv) ?_)
        refine congrArg (PV.int .i64) ?_
        exact hfin

theorem real58 (A : Alg) (hA : A = std) (x : Box) (hsz : x.mails.length ≤ 1048576) : Real Try.prog 58 [.agg (encBox x)] (.agg (encBoxO x)) := by
  obtain ⟨id, name, tag, next, mails, mrows, hm⟩ := x
  have hcal : Real Try.prog 73 [.sl 3 mrows] (.ow 3 mrows) := by
    have := real73 A hA mails mrows hm hsz (fun x _ => real83 A hA x)
    rw [hm]
    rwa [hm] at this
  refine real tyOk Try.func58 (by kernel_rfl) (afun_of rfl ?_)
  refine go_seq ?_
  refine go_reg ?_
  refine run_aops hA 2 _ _ _ _ (by cbv) ?_
  refine ops_done ?_
  refine go_seq ?_
  refine go_reg ?_
  refine run_aops hA 1 _ _ _ _ (by cbv) ?_
  refine ops_done ?_
  refine go_seq ?_
  refine go_reg ?_
  refine run_aops hA 4 _ _ _ _ (by cbv) ?_
  refine ops_done ?_
  refine go_seq ?_
  refine go_reg ?_
  refine run_aops hA 4 _ _ _ _ (by cbv) ?_
  refine ops_done ?_
  refine go_seq ?_
  refine go_reg ?_
  refine run_aops hA 4 _ _ _ _ (by cbv) ?_
  refine ops_done ?_
  refine go_seq ?_
  refine go_reg ?_
  refine run_aops hA 4 _ _ _ _ (by cbv) ?_
  refine ops_done ?_
  refine go_seq ?_
  refine go_reg ?_
  refine run_aops hA 2 _ _ _ _ (by cbv) ?_
  refine ops_callV rfl rfl (by cbv) (by cbv) hcal (.inr rfl) (by cbv) ?_
  refine run_aops hA 2 _ _ _ _ (by cbv) ?_
  refine ops_done ?_
  refine go_seq ?_
  refine go_reg ?_
  refine run_aops hA 2 _ _ _ _ (by cbv) ?_
  refine ops_done ?_
  refine go_ret (closed (by cbv) ?_)
  rfl

theorem real60 (A : Alg) (hA : A = std) (x : Box) (hsz : x.mails.length ≤ 1048576) : Real Try.prog 60 [.agg (encBox x), .agg (encBox x)] (.bool true) := by
  obtain ⟨id, name, tag, next, mails, mrows, hm⟩ := x
  have hcal : Real Try.prog 74 [.sl 3 mrows, .sl 3 mrows] (.bool true) := real74 A hA mails mrows hm hsz (fun x _ => real84 A hA x)
  refine real tyOk Try.func60 (by kernel_rfl) (afun_of rfl ?_)
  refine go_seq ?_
  refine go_reg ?_
  refine run_aops hA 3 _ _ _ _ (by cbv) ?_
  refine ops_done ?_
  refine go_seq ?_
  refine go_seq ?_
  refine go_reg ?_
  refine run_aops hA 5 _ _ _ _ (by cbv) ?_
  refine ops_done ?_
  refine go_cond rfl (fun c1 => ?_) (fun c1 => ?_)
  · skip
    refine go_seq ?_
    refine go_reg ?_
    refine run_aops hA 1 _ _ _ _ (by cbv) ?_
    refine ops_done ?_
    refine go_ret (closed (by cbv) ?_)
    first
      | rfl
      | (subst hA; simp [std] at *)
  · skip
    refine go_skip ?_
    refine go_seq ?_
    refine go_seq ?_
    refine go_reg ?_
    refine run_aops hA 5 _ _ _ _ (by cbv) ?_
    refine ops_done ?_
    refine go_cond rfl (fun c2 => ?_) (fun c2 => ?_)
    · skip
      refine go_seq ?_
      refine go_reg ?_
      refine run_aops hA 1 _ _ _ _ (by cbv) ?_
      refine ops_done ?_
      refine go_ret (closed (by cbv) ?_)
      first
        | rfl
        | (subst hA; simp [std] at *)
    · skip
      refine go_skip ?_
      refine go_seq ?_
      refine go_seq ?_
      refine go_reg ?_
      refine run_aops hA 5 _ _ _ _ (by cbv) ?_
      refine ops_done ?_
      refine go_cond rfl (fun c3 => ?_) (fun c3 => ?_)
      · skip
        refine go_seq ?_
        refine go_reg ?_
        refine run_aops hA 1 _ _ _ _ (by cbv) ?_
        refine ops_done ?_
        refine go_ret (closed (by cbv) ?_)
        first
          | rfl
          | (subst hA; simp [std] at *)
      · skip
        refine go_skip ?_
        refine go_seq ?_
        refine go_seq ?_
        refine go_reg ?_
        refine run_aops hA 5 _ _ _ _ (by cbv) ?_
        refine ops_done ?_
        refine go_cond rfl (fun c4 => ?_) (fun c4 => ?_)
        · skip
          refine go_seq ?_
          refine go_reg ?_
          refine run_aops hA 1 _ _ _ _ (by cbv) ?_
          refine ops_done ?_
          refine go_ret (closed (by cbv) ?_)
          first
            | rfl
            | (subst hA; simp [std] at *)
        · skip
          refine go_skip ?_
          refine go_seq ?_
          refine go_seq ?_
          refine go_reg ?_
          refine run_aops hA 4 _ _ _ _ (by cbv) ?_
          refine ops_callV rfl rfl (by cbv) (by cbv) hcal (.inl trivial) (by cbv) ?_
          refine run_aops hA 1 _ _ _ _ (by cbv) ?_
          refine ops_done ?_
          refine go_cond rfl (fun c5 => ?_) (fun c5 => ?_)
          · skip
            refine go_seq ?_
            refine go_reg ?_
            refine run_aops hA 1 _ _ _ _ (by cbv) ?_
            refine ops_done ?_
            refine go_ret (closed (by cbv) ?_)
            first
              | rfl
              | (subst hA; simp [std] at *)
          · skip
            refine go_skip ?_
            refine go_seq ?_
            refine go_reg ?_
            refine run_aops hA 1 _ _ _ _ (by cbv) ?_
            refine ops_done ?_
            refine go_ret (closed (by cbv) ?_)
            first
              | rfl
              | (subst hA; simp [std] at *)
def S45 (ra : List (List PV)) (l z : Int) : St := { sl := [.sl 5 ra, .int .i64 l, .bad, .bad, .int .i64 0, .int .i64 z, .bad, .bad, .bad, .bad, .bad, .bad, .bad, .bad, .bad, .bad, .bad, .bad, .bad, .bad, .bad, .bad, .bad, .bad, .bad, .bad, .bad], bl := [] }

theorem real45 (A : Alg) (hA : A = std) (xs : List Box) (ra : List (List PV)) (hra : ra = xs.map encBox) (n m : Int) (hm : m = chain n (szBoxS xs)) (h1 : -1 ≤ n) (h2 : n ≤ 1048576) (hok : ∀ k ∈ szBoxS xs, k ≤ 9223372036854775807) :
    Real Try.prog 45 [.sl 5 ra, .int .i64 n] (.int .i64 m) := by
  subst hm
  refine real tyOk Try.func45 (by kernel_rfl) (afun_of rfl ?_)
  refine go_seq ?_
  refine go_reg ?_
  refine run_aops hA 1 _ _ _ _ (by cbv) ?_
  refine ops_done ?_
  refine go_seq ?_
  refine go_reg ?_
  refine run_aops hA 5 _ _ _ _ (by cbv) ?_
  refine ops_done ?_
  refine go_seq ?_
  refine go_seq ?_
  have hrl : A.rlen ra = (xs.length : Int) := by subst hA; simp [std, hra]
  have hw : A.num .sub .i64 n (A.rlen ra) = n - xs.length := by
    rw [hrl]; subst hA
    exact sub_std h1 h2 (hok _ (by simp [szBoxS]))
  refine go_reg ?_
  refine run_aops hA 2 _ _ _ _ (by cbv) ?_
  refine ops_done ?_
  refine go_cond rfl (fun c1 => ?_) (fun c1 => ?_)
  · skip
    refine go_seq ?_
    refine go_reg ?_
    refine run_aops hA 1 _ _ _ _ (by cbv) ?_
    refine ops_done ?_
    refine go_ret (closed (by cbv) ?_)
    refine congrArg (PV.int .i64) ?_
    have c1 : A.cmp .lss (A.num .sub .i64 n (A.rlen ra)) 0 = true := c1
    rw [hw] at c1
    subst hA
    simp only [std, decide_eq_true_eq] at c1
    rw [szBoxS, chain_cons, if_pos c1]
  · skip
    refine go_skip ?_
    refine go_seq ?_
    refine go_seq ?_
    have hge : ¬ n - xs.length < 0 := by
      have c1 : A.cmp .lss (A.num .sub .i64 n (A.rlen ra)) 0 = false := c1
      rw [hw] at c1
      subst hA
      simpa only [std, decide_eq_false_iff_not] using c1
    obtain ⟨L, hL⟩ : ∃ L : Nat → Int, ∀ i, L i = chain (n - xs.length) ((xs.take i).flatMap szBox) := ⟨_, fun _ => rfl⟩
    have hL0 : A.num .sub .i64 n (A.rlen ra) = L 0 := by rw [hw, hL]; rfl
    refine go_reg ?_
    refine run_aops hA 1 _ _ _ _ (by cbv) ?_
    refine ops_done ?_
    refine go_block ?_
    refine go_loop (fun i => S45 ra (L i) (Int.ofNat i)) (fun i => 0 ≤ L i) xs.length [] [0, 1, 4, 5] [] rfl (Eq.trans (b := S45 ra (A.num .sub .i64 n (A.rlen ra)) (Int.ofNat 0)) (by cbv) (by rw [hL0])) (by rw [hL]; simp [chain]; omega) (fun i hi hinv => ?_)
    refine go_seq ?_
    refine go_seq ?_
    refine go_reg ?_
    refine run_aops hA 4 _ _ _ _ (by cbv) ?_
    refine ops_done ?_
    refine go_cond rfl (fun c2 => ?_) (fun c2 => ?_)
    · skip
      refine go_skip ?_
      refine go_seq ?_
      refine go_block ?_
      refine go_seq ?_
      have hlt : i < xs.length := by
        have c2 : A.cmp .lss (Int.ofNat i) (A.rlen ra) = true := c2
        rw [hrl] at c2
        subst hA
        simp only [std, decide_eq_true_eq] at c2
        exact Int.ofNat_lt.1 c2
      obtain ⟨x, hx0⟩ : ∃ x, xs[i]? = some x := ⟨xs[i], by simp [hlt]⟩
      have hx := map_at encBox hra hx0
      have hLs : L (i + 1) = chain (L i) (szBox x) := by
        rw [hL, hL, take_flat szBox xs hx0]
        exact chain_app _ _ _ (by rw [← hL]; exact hinv)
      have hLle : L i ≤ 1048576 := by
        have := chain_le ((xs.take i).flatMap szBox) (n - xs.length) (by omega)
        rw [← hL] at this
        omega
      have hok' : ∀ k ∈ szBox x, k ≤ 9223372036854775807 := fun k hk => hok k (by
        rw [szBoxS]
        exact List.mem_cons_of_mem _ (List.mem_flatMap.2 ⟨x, List.mem_of_getElem? hx0, hk⟩))
      have hcal := real57 A hA x (L i) (L (i + 1)) hLs (by omega) hLle hok'
      refine go_reg ?_
      refine run_aops hA 2 _ _ _ _ (by cbv) ?_
      refine ops_step rfl rfl (idx_sl rfl rfl rfl rfl rfl (Int.natCast_nonneg i) rfl hx) ?_
      refine run_aops hA 2 _ _ _ _ (by cbv) ?_
      refine ops_callV rfl rfl (by cbv) (by cbv) hcal (.inl trivial) (by cbv) ?_
      refine run_aops hA 1 _ _ _ _ (by cbv) ?_
      refine ops_done ?_
      refine go_seq ?_
      refine go_reg ?_
      refine run_aops hA 2 _ _ _ _ (by cbv) ?_
      refine ops_done ?_
      refine go_cond rfl (fun c3 => ?_) (fun c3 => ?_)
      · skip
        refine go_seq ?_
        refine go_reg ?_
        refine run_aops hA 1 _ _ _ _ (by cbv) ?_
        refine ops_done ?_
        refine go_ret (closed (by cbv) ?_)
        refine congrArg (PV.int .i64) ?_
        have hneg : L (i + 1) < 0 := by
          subst hA
          simpa only [std, decide_eq_true_eq] using c3
        rw [szBoxS, chain_cons, if_neg hge, flat_split szBox xs (i + 1)]
        rw [hL] at hneg
        exact chain_neg _ _ _ (by omega) hneg
      · skip
        refine go_skip ?_
        refine go_reg ?_
        refine run_aops hA 3 _ _ _ _ (by cbv) ?_
        refine ops_done ?_
        have hnn : 0 ≤ L (i + 1) := by
          subst hA
          simp only [std, decide_eq_false_iff_not] at c3
          omega
        refine ⟨hlt, hnn, ?_⟩
        have hnum : A.num .add .i64 (Int.ofNat i) 1 = Int.ofNat (i + 1) := by
          subst hA
          exact inc_nat (by have := hok xs.length (by simp [szBoxS]); omega)
        exact Eq.trans (b := S45 ra (L (i + 1)) (A.num .add .i64 (Int.ofNat i) 1)) (by cbv) (congrArg (S45 ra (L (i + 1))) hnum)
    · skip
      refine go_exit ⟨fun _ => ?_, fun h => absurd rfl h⟩
      refine go_seq ?_
      refine go_reg ?_
      refine run_aops hA 2 _ _ _ _ (by cbv) ?_
      refine ops_done ?_
      refine go_ret (closed (by cbv) ?_)
      refine congrArg (PV.int .i64) ?_
      have hge2 : xs.length ≤ i := by
        have c2 : A.cmp .lss (Int.ofNat i) (A.rlen ra) = false := c2
        rw [hrl] at c2
        subst hA
        simp only [std, decide_eq_false_iff_not] at c2
        exact Nat.le_of_not_lt fun h => c2 (Int.ofNat_lt.2 h)
      rw [szBoxS, chain_cons, if_neg hge, hL, List.take_of_length_le hge2]

def S46 (ra rows : List (List PV)) (z : Int) : St := { sl := [.sl 5 ra, .bad, .zc, .own 7, .int .i64 z, .bad, .bad, .bad, .bad, .bad, .bad, .bad, .bad, .bad, .bad, .bad, .bad, .bad, .bad, .bad, .bad, .bad, .bad], bl := [(7, ⟨.arr, 5, rows⟩)] }
def z46 : List PV := [.int .i64 0, .str ByteArray.empty, .str ByteArray.empty, .int .i64 0, .zc]

theorem real46 (A : Alg) (hA : A = std) (xs : List Box) (ra : List (List PV)) (hra : ra = xs.map encBox) (hsz : xs.length ≤ 1048576) (hto : ∀ x ∈ xs, Real Try.prog 58 [.agg (encBox x)] (.agg (encBoxO x))) :
    Real Try.prog 46 [.sl 5 ra] (.ow 5 (xs.map encBoxO)) := by
  obtain ⟨R, hR⟩ : ∃ R : Nat → List (List PV), ∀ i, R i = fill encBoxO z46 xs i := ⟨_, fun _ => rfl⟩
  have hal : A.rlen ra = (xs.length : Int) := by subst hA; simp [std, hra]
  have hn : 0 ≤ A.rlen ra := by rw [hal]; omega
  have hmax : A.rlen ra * 72 ≤ 140737488355328 := by rw [hal]; omega
  have hR0 : R 0 = List.replicate (A.rlen ra).toNat z46 := by rw [hR, fill_zero, hal]; rfl
  refine real tyOk Try.func46 (by kernel_rfl) (afun_of rfl ?_)
  refine go_seq ?_
  refine go_reg ?_
  refine run_aops hA 1 _ _ _ _ (by cbv) ?_
  refine ops_done ?_
  refine go_seq ?_
  refine go_reg ?_
  refine run_aops hA 2 _ _ _ _ (by cbv) ?_
  refine ops_step rfl rfl (mk_arr rfl rfl rfl rfl rfl rfl hn hmax (by decide) (by decide) rfl hR0) ?_
  refine run_aops hA 1 _ _ _ _ (by cbv) ?_
  refine ops_done ?_
  refine go_seq ?_
  refine go_seq ?_
  refine go_reg ?_
  refine run_aops hA 1 _ _ _ _ (by cbv) ?_
  refine ops_done ?_
  refine go_block ?_
  refine go_loop (fun i => S46 ra (R i) (Int.ofNat i)) (fun i => True) xs.length [] [0, 2, 3, 4] [7] rfl (by cbv) trivial (fun i hi hinv => ?_)
  refine go_seq ?_
  refine go_seq ?_
  refine go_reg ?_
  refine run_aops hA 4 _ _ _ _ (by cbv) ?_
  refine ops_done ?_
  refine go_cond rfl (fun c1 => ?_) (fun c1 => ?_)
  · skip
    refine go_skip ?_
    refine go_seq ?_
    refine go_block ?_
    have hlt : i < xs.length := by
      have c1 : A.cmp .lss (Int.ofNat i) (A.rlen ra) = true := c1
      rw [hal] at c1
      subst hA
      simp only [std, decide_eq_true_eq] at c1
      exact Int.ofNat_lt.1 c1
    obtain ⟨x, hx0⟩ : ∃ x, xs[i]? = some x := ⟨xs[i], by simp [hlt]⟩
    have hx := map_at encBox hra hx0
    have hcal := hto x (List.mem_of_getElem? hx0)
    have hz : (R i)[i]? = some z46 := by rw [hR]; exact fill_at _ _ _ hlt
    have hset : R (i + 1) = (R i).set i (encBoxO x) := by rw [hR, hR]; exact (fill_set encBoxO _ xs hx0).symm
    refine go_reg ?_
    refine run_aops hA 4 _ _ _ _ (by cbv) ?_
    refine ops_step rfl rfl (idx_sl rfl rfl rfl rfl rfl (Int.natCast_nonneg i) rfl hx) ?_
    refine run_aops hA 1 _ _ _ _ (by cbv) ?_
    refine ops_callV rfl rfl (by cbv) (by cbv) hcal (.inr rfl) (by cbv) ?_
    refine ops_step rfl rfl (idx_own rfl rfl rfl rfl rfl rfl (Int.natCast_nonneg i) (by show (Int.ofNat i) < ((R i).length : Int); rw [hR, fill_len _ _ _ hi]; exact Int.ofNat_lt.2 hlt) rfl) ?_
    refine ops_step rfl rfl (sto_arr (r := z46) (cs := encBoxO x) rfl rfl rfl rfl rfl ⟨_, _, rfl⟩ rfl rfl hz rfl hset) ?_
    refine ops_done ?_
    refine go_reg ?_
    refine run_aops hA 3 _ _ _ _ (by cbv) ?_
    refine ops_done ?_
    refine ⟨hlt, trivial, ?_⟩
    have hnum : A.num .add .i64 (Int.ofNat i) 1 = Int.ofNat (i + 1) := by
      subst hA
      exact inc_nat (by omega)
    exact Eq.trans (b := S46 ra (R (i + 1)) (A.num .add .i64 (Int.ofNat i) 1)) (by cbv) (congrArg (S46 ra (R (i + 1))) hnum)
  · skip
    refine go_exit ⟨fun _ => ?_, fun h => absurd rfl h⟩
    refine go_seq ?_
    refine go_reg ?_
    refine run_aops hA 2 _ _ _ _ (by cbv) ?_
    refine ops_done ?_
    refine go_ret (closed (by cbv) ?_)
    refine congrArg (PV.ow 5) ?_
    have hge2 : xs.length ≤ i := by
      have c1 : A.cmp .lss (Int.ofNat i) (A.rlen ra) = false := c1
      rw [hal] at c1
      subst hA
      simp only [std, decide_eq_false_iff_not] at c1
      exact Nat.le_of_not_lt fun h => c1 (Int.ofNat_lt.2 h)
    rw [hR, fill_all _ _ _ hge2]

def S49 (ra : List (List PV)) (z : Int) : St := { sl := [.sl 5 ra, .sl 5 ra, .bad, .bad, .bool false, .int .i64 z, .bad, .bad, .bad, .bad, .bad, .bad, .bad, .bad, .bad, .bad, .bad, .bad, .bad, .bad, .bad, .bad, .bad, .bad, .bad, .bad, .bad], bl := [] }

theorem real49 (A : Alg) (hA : A = std) (xs : List Box) (ra : List (List PV)) (hra : ra = xs.map encBox) (hsz : xs.length ≤ 1048576) (heq : ∀ x ∈ xs, Real Try.prog 60 [.agg (encBox x), .agg (encBox x)] (.bool true)) :
    Real Try.prog 49 [.sl 5 ra, .sl 5 ra] (.bool true) := by
  have hal : A.rlen ra = (xs.length : Int) := by subst hA; simp [std, hra]
  refine real tyOk Try.func49 (by kernel_rfl) (afun_of rfl ?_)
  refine go_seq ?_
  refine go_reg ?_
  refine run_aops hA 1 _ _ _ _ (by cbv) ?_
  refine ops_done ?_
  refine go_seq ?_
  refine go_seq ?_
  refine go_reg ?_
  refine run_aops hA 5 _ _ _ _ (by cbv) ?_
  refine ops_done ?_
  refine go_cond rfl (fun c1 => ?_) (fun c1 => ?_)
  · skip
    refine go_seq ?_
    refine go_reg ?_
    refine run_aops hA 1 _ _ _ _ (by cbv) ?_
    refine ops_done ?_
    refine go_ret (closed (by cbv) ?_)
    subst hA
    simp [std] at c1
  · skip
    refine go_skip ?_
    refine go_seq ?_
    refine go_seq ?_
    refine go_reg ?_
    refine run_aops hA 1 _ _ _ _ (by cbv) ?_
    refine ops_done ?_
    refine go_block ?_
    refine go_loop (fun i => S49 ra (Int.ofNat i)) (fun i => True) xs.length [] [0, 1, 4, 5] [] rfl (by cbv) trivial (fun i hi hinv => ?_)
    refine go_seq ?_
    refine go_seq ?_
    refine go_reg ?_
    refine run_aops hA 4 _ _ _ _ (by cbv) ?_
    refine ops_done ?_
    refine go_cond rfl (fun c2 => ?_) (fun c2 => ?_)
    · skip
      refine go_skip ?_
      refine go_seq ?_
      refine go_block ?_
      refine go_seq ?_
      have hlt : i < xs.length := by
        have c2 : A.cmp .lss (Int.ofNat i) (A.rlen ra) = true := c2
        rw [hal] at c2
        subst hA
        simp only [std, decide_eq_true_eq] at c2
        exact Int.ofNat_lt.1 c2
      obtain ⟨x, hx0⟩ : ∃ x, xs[i]? = some x := ⟨xs[i], by simp [hlt]⟩
      have hx := map_at encBox hra hx0
      have hcal := heq x (List.mem_of_getElem? hx0)
      refine go_draw (by cbv) ?_
      refine run_dops hA 2 _ _ _ _ (by cbv) ?_
      refine dops_step rfl rfl rfl (idx_sl rfl rfl rfl rfl rfl (Int.natCast_nonneg i) rfl hx) ?_
      refine run_dops hA 3 _ _ _ _ (by cbv) ?_
      refine dops_step rfl rfl rfl (idx_sl rfl rfl rfl rfl rfl (Int.natCast_nonneg i) rfl hx) ?_
      refine run_dops hA 1 _ _ _ _ (by cbv) ?_
      refine dops_callV rfl rfl (by cbv) (by cbv) hcal (.inl trivial) ?_
      refine run_dops hA 1 _ _ _ _ (by cbv) ?_
      refine dops_done ?_
      refine go_cond rfl (fun c3 => ?_) (fun c3 => ?_)
      · skip
        refine go_seq ?_
        refine go_reg ?_
        refine run_aops hA 1 _ _ _ _ (by cbv) ?_
        refine ops_done ?_
        refine go_ret (closed (by cbv) ?_)
        subst hA
        simp [std] at c3
      · skip
        refine go_skip ?_
        refine go_reg ?_
        refine run_aops hA 3 _ _ _ _ (by cbv) ?_
        refine ops_done ?_
        refine ⟨hlt, trivial, ?_⟩
        have hnum : A.num .add .i64 (Int.ofNat i) 1 = Int.ofNat (i + 1) := by
          subst hA
          exact inc_nat (by omega)
        exact Eq.trans (b := S49 ra (A.num .add .i64 (Int.ofNat i) 1)) (by cbv) (congrArg (S49 ra) hnum)
    · skip
      refine go_exit ⟨fun _ => ?_, fun h => absurd rfl h⟩
      refine go_seq ?_
      refine go_reg ?_
      refine run_aops hA 1 _ _ _ _ (by cbv) ?_
      refine ops_done ?_
      refine go_ret (closed (by cbv) ?_)
      rfl

end Go.Av

