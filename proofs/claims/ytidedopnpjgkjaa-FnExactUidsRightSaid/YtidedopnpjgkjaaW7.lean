/- Walks: states; a search in a list of mails. -/
import Derived.Test.YtidedopnpjgkjaaW6
namespace Go.Av
open Go Go.Proofs
set_option maxRecDepth 100000
set_option maxHeartbeats 4000000
set_option linter.unusedVariables false
set_option linter.unusedSimpArgs false

structure State where
  boxes : List Box
  rows : List (List PV)
  rowsO : List (List PV)
  hr : rows = boxes.map encBox
  ho : rowsO = boxes.map encBoxO

theorem erase_boxes : ∀ xs : List Box, eraseR (xs.map encBoxO) = xs.map encBox
  | [] => rfl
  | x :: xs => by
    have ih := erase_boxes xs
    have h := erase_mrows x.hm
    show [PV.int .i64 x.id, .str x.name, .str x.tag, .int .i64 x.next, .sl 3 (eraseR x.mrows)] :: eraseR (xs.map encBoxO) = encBox x :: xs.map encBox
    rw [ih, h]
    rfl

theorem real20 (A : Alg) (hA : A = std) (x : State) (n m : Int) (hm : m = chain n (szBoxS x.boxes)) (h1 : -1 ≤ n) (h2 : n ≤ 1048576) (hok : ∀ k ∈ szBoxS x.boxes, k ≤ 9223372036854775807) :
    Real Try.prog 20 [.agg [.sl 5 x.rows], .int .i64 n] (.int .i64 m) := by
  obtain ⟨boxes, rows, rowsO, hr, ho⟩ := x
  obtain ⟨m', hm'⟩ : ∃ m', m' = chain n (szBoxS boxes) := ⟨_, rfl⟩
  have hmm : m = m' := hm.trans hm'.symm
  subst hmm
  refine real tyOk Try.func20 (by kernel_rfl) (afun_of rfl ?_)
  refine go_seq ?_
  refine go_reg ?_
  refine run_aops hA 2 _ _ _ _ (by cbv) ?_
  refine ops_done ?_
  refine go_seq ?_
  have hcal := real45 A hA boxes rows hr n m hm' h1 h2 hok
  refine go_reg ?_
  refine run_aops hA 3 _ _ _ _ (by cbv) ?_
  refine ops_callV rfl rfl (by cbv) (by cbv) hcal (.inl trivial) (by cbv) ?_
  refine run_aops hA 1 _ _ _ _ (by cbv) ?_
  refine ops_done ?_
  refine go_seq ?_
  refine go_seq ?_
  refine go_reg ?_
  refine run_aops hA 2 _ _ _ _ (by cbv) ?_
  refine ops_done ?_
  refine go_cond rfl (fun c1 => ?_) (fun c1 => ?_)
  · skip
    refine go_seq ?_
    refine go_reg ?_
    refine run_aops hA 1 _ _ _ _ (by cbv) ?_
    refine ops_done ?_
    refine go_ret (closed (by cbv) ?_)
    refine congrArg (PV.int .i64) ?_
    subst hA
    simp only [std, decide_eq_true_eq] at c1
    rw [hm'] at c1 ⊢
    exact chain_m1 h1 c1
  · skip
    refine go_skip ?_
    refine go_seq ?_
    refine go_reg ?_
    refine run_aops hA 2 _ _ _ _ (by cbv) ?_
    refine ops_done ?_
    refine go_ret (closed (by cbv) ?_)
    rfl

theorem real22 (A : Alg) (hA : A = std) (x : State) (hsz : x.boxes.length ≤ 1048576) (hms : ∀ b ∈ x.boxes, b.mails.length ≤ 1048576) : Real Try.prog 22 [.agg [.sl 5 x.rows]] (.agg [.ow 5 x.rowsO]) := by
  obtain ⟨boxes, rows, rowsO, hr, ho⟩ := x
  have hcal : Real Try.prog 46 [.sl 5 rows] (.ow 5 rowsO) := by
    rw [ho]; exact real46 A hA boxes rows hr hsz (fun b hb => real58 A hA b (hms b hb))
  refine real tyOk Try.func22 (by kernel_rfl) (afun_of rfl ?_)
  refine go_seq ?_
  refine go_reg ?_
  refine run_aops hA 2 _ _ _ _ (by cbv) ?_
  refine ops_done ?_
  refine go_seq ?_
  refine go_reg ?_
  refine run_aops hA 1 _ _ _ _ (by cbv) ?_
  refine ops_done ?_
  refine go_seq ?_
  refine go_reg ?_
  refine run_aops hA 2 _ _ _ _ (by cbv) ?_
  refine ops_callV rfl rfl (by cbv) (by cbv) hcal (.inr rfl) (by cbv) ?_
  refine run_aops hA 2 _ _ _ _ (by cbv) ?_
  refine ops_done ?_
  refine go_seq ?_
  refine go_reg ?_
  refine run_aops hA 2 _ _ _ _ (by cbv) ?_
  refine ops_done ?_
  refine go_ret (closed (by cbv) ?_)
  rfl

theorem real24 (A : Alg) (hA : A = std) (x : State) (hsz : x.boxes.length ≤ 1048576) (hms : ∀ b ∈ x.boxes, b.mails.length ≤ 1048576) : Real Try.prog 24 [.agg [.sl 5 x.rows], .agg [.sl 5 x.rows]] (.bool true) := by
  obtain ⟨boxes, rows, rowsO, hr, ho⟩ := x
  have hcal : Real Try.prog 49 [.sl 5 rows, .sl 5 rows] (.bool true) := real49 A hA boxes rows hr hsz (fun b hb => real60 A hA b (hms b hb))
  refine real tyOk Try.func24 (by kernel_rfl) (afun_of rfl ?_)
  refine go_seq ?_
  refine go_reg ?_
  refine run_aops hA 3 _ _ _ _ (by cbv) ?_
  refine ops_done ?_
  refine go_seq ?_
  refine go_seq ?_
  refine go_reg ?_
  refine run_aops hA 4 _ _ _ _ (by cbv) ?_
  refine ops_callV rfl rfl (by cbv) (by cbv) hcal (.inl trivial) (by cbv) ?_
  refine run_aops hA 1 _ _ _ _ (by cbv) ?_
  refine ops_done ?_
  refine go_cond rfl (fun c1 => ?_) (fun c1 => ?_)
  · skip
    refine go_seq ?_
    refine go_reg ?_
    refine run_aops hA 1 _ _ _ _ (by cbv) ?_
    refine ops_done ?_
    refine go_ret (closed (by cbv) ?_)
    first
      | rfl
      | (subst hA; simp [std] at *)
  · skip
    refine go_skip ?_
    refine go_seq ?_
    refine go_reg ?_
    refine run_aops hA 1 _ _ _ _ (by cbv) ?_
    refine ops_done ?_
    refine go_ret (closed (by cbv) ?_)
    first
      | rfl
      | (subst hA; simp [std] at *)

theorem real48 (A : Alg) (hA : A = std) (q x : Mail) : Real Try.prog 48 [.agg (encMail q), .rd (encMail x)] (.bool (q.uid == x.uid)) := by
  obtain ⟨uid, flag, text⟩ := x
  obtain ⟨uid2, flag2, text2⟩ := q
  refine real tyOk Try.func48 (by kernel_rfl) (afun_of rfl ?_)
  refine go_seq ?_
  refine go_reg ?_
  refine run_aops hA 2 _ _ _ _ (by cbv) ?_
  refine ops_done ?_
  refine go_seq ?_
  refine go_reg ?_
  refine run_aops hA 6 _ _ _ _ (by cbv) ?_
  refine ops_done ?_
  refine go_ret (closed (by cbv) ?_)
  refine congrArg PV.bool ?_
  subst hA
  rfl

def idxOf (p : Mail → Bool) : List Mail → Nat → Int
  | [], _ => -1
  | x :: xs, i => if p x then Int.ofNat i else idxOf p xs (i + 1)

theorem idxOf_any (p : Mail → Bool) : ∀ (xs : List Mail) (i : Nat), decide (idxOf p xs i ≥ 0) = xs.any p
  | [], i => rfl
  | x :: xs, i => by
    rw [List.any_cons, ← idxOf_any p xs (i + 1), idxOf]
    cases p x
    · simp
    · simp

def S59 (ra : List (List PV)) (k f : Int) (s : ByteArray) (l z : Int) : St := { sl := [.sl 3 ra, .fn 48 [.rd [.int .i64 k, .int .i64 f, .str s]], .bad, .bad, .int .i64 0, .bad, .bad, .int .i64 l, .int .i64 z, .bad, .bad, .bad, .bad, .bad, .bad, .bad, .bad, .bad, .bad], bl := [] }

theorem real59 (A : Alg) (hA : A = std) (uid flag : Int) (text : ByteArray) (xs : List Mail) (ra : List (List PV)) (hra : ra = xs.map encMail) (hsz : xs.length ≤ 1048576) (r : Int) (hr : r = idxOf (fun q => q.uid == uid) xs 0) :
    Real Try.prog 59 [.sl 3 ra, .fn 48 [.rd [.int .i64 uid, .int .i64 flag, .str text]]] (.int .i64 r) := by
  subst hr
  have hal : A.rlen ra = (xs.length : Int) := by subst hA; simp [std, hra]
  refine real tyOk Try.func59 (by kernel_rfl) (afun_of rfl ?_)
  refine go_seq ?_
  refine go_reg ?_
  refine run_aops hA 1 _ _ _ _ (by cbv) ?_
  refine ops_done ?_
  refine go_seq ?_
  refine go_seq ?_
  refine go_reg ?_
  refine run_aops hA 3 _ _ _ _ (by cbv) ?_
  refine ops_done ?_
  refine go_block ?_
  refine go_loop (fun i => S59 ra uid flag text (A.rlen ra) (Int.ofNat i)) (fun i => idxOf (fun q => q.uid == uid) xs 0 = idxOf (fun q => q.uid == uid) (xs.drop i) i) xs.length [] [0, 1, 4, 7, 8] [] rfl (by cbv) rfl (fun i hi hinv => ?_)
  refine go_seq ?_
  refine go_reg ?_
  refine run_aops hA 1 _ _ _ _ (by cbv) ?_
  refine ops_done ?_
  refine go_seq ?_
  refine go_cond rfl (fun c1 => ?_) (fun c1 => ?_)
  · skip
    refine go_skip ?_
    refine go_seq ?_
    refine go_block ?_
    refine go_seq ?_
    have hlt : i < xs.length := by
      have c1 : A.cmp .lss (Int.ofNat i) (A.rlen ra) = true := c1
      rw [hal] at c1
      subst hA
      simp only [std, decide_eq_true_eq] at c1
      exact Int.ofNat_lt.1 c1
    obtain ⟨x, hx0⟩ : ∃ x, xs[i]? = some x := ⟨xs[i], by simp [hlt]⟩
    have hx := map_at encMail hra hx0
    have hdr : xs.drop i = x :: xs.drop (i + 1) := by
      rw [List.drop_eq_getElem_cons hlt]
      have : xs[i] = x := (List.getElem?_eq_some_iff.1 hx0).2
      rw [this]
    obtain ⟨b, hb⟩ : ∃ b, b = (x.uid == uid) := ⟨_, rfl⟩
    have hcal : Real Try.prog 48 [.agg (encMail x), .rd [.int .i64 uid, .int .i64 flag, .str text]] (.bool b) := by rw [hb]; exact real48 A hA x ⟨uid, flag, text⟩
    refine go_reg ?_
    refine run_aops hA 2 _ _ _ _ (by cbv) ?_
    refine ops_done ?_
    refine go_seq ?_
    refine go_reg ?_
    refine run_aops hA 3 _ _ _ _ (by cbv) ?_
    refine ops_step rfl rfl (idx_sl rfl rfl rfl rfl rfl (Int.natCast_nonneg i) rfl hx) ?_
    refine run_aops hA 1 _ _ _ _ (by cbv) ?_
    refine ops_callV rfl rfl (by cbv) (by cbv) hcal (.inl trivial) (by cbv) ?_
    refine ops_done ?_
    refine go_cond rfl (fun c2 => ?_) (fun c2 => ?_)
    · skip
      refine go_seq ?_
      refine go_reg ?_
      refine run_aops hA 2 _ _ _ _ (by cbv) ?_
      refine ops_done ?_
      refine go_ret (closed (by cbv) ?_)
      refine congrArg (PV.int .i64) ?_
      rw [hinv, hdr, idxOf, ← hb, c2]
      rfl
    · skip
      refine go_skip ?_
      refine go_reg ?_
      refine run_aops hA 2 _ _ _ _ (by cbv) ?_
      refine ops_done ?_
      refine ⟨hlt, ?_, ?_⟩
      · rw [hinv, hdr, idxOf, ← hb, c2]
        rfl
      · have hnum : A.num .add .i64 (Int.ofNat i) 1 = Int.ofNat (i + 1) := by
          subst hA
          exact inc_nat (by omega)
        exact Eq.trans (b := S59 ra uid flag text (A.rlen ra) (A.num .add .i64 (Int.ofNat i) 1)) (by cbv) (congrArg (S59 ra uid flag text (A.rlen ra)) hnum)
  · skip
    refine go_exit ⟨fun _ => ?_, fun h => absurd rfl h⟩
    refine go_seq ?_
    refine go_reg ?_
    refine run_aops hA 1 _ _ _ _ (by cbv) ?_
    refine ops_done ?_
    refine go_ret (closed (by cbv) ?_)
    refine congrArg (PV.int .i64) ?_
    have hge2 : xs.length ≤ i := by
      have c1 : A.cmp .lss (Int.ofNat i) (A.rlen ra) = false := c1
      rw [hal] at c1
      subst hA
      simp only [std, decide_eq_false_iff_not] at c1
      exact Nat.le_of_not_lt fun h => c1 (Int.ofNat_lt.2 h)
    rw [hinv, List.drop_of_length_le hge2]
    rfl

theorem real47 (A : Alg) (hA : A = std) (uid flag : Int) (text : ByteArray) (xs : List Mail) (ra : List (List PV)) (hra : ra = xs.map encMail) (hsz : xs.length ≤ 1048576) (b : Bool) (hb : b = xs.any (fun q => q.uid == uid)) :
    Real Try.prog 47 [.sl 3 ra, .fn 48 [.rd [.int .i64 uid, .int .i64 flag, .str text]]] (.bool b) := by
  refine real tyOk Try.func47 (by kernel_rfl) (afun_of rfl ?_)
  refine go_seq ?_
  refine go_reg ?_
  refine run_aops hA 1 _ _ _ _ (by cbv) ?_
  refine ops_done ?_
  refine go_seq ?_
  obtain ⟨r, hr⟩ : ∃ r, r = idxOf (fun q => q.uid == uid) xs 0 := ⟨_, rfl⟩
  have hcal := real59 A hA uid flag text xs ra hra hsz r hr
  refine go_reg ?_
  refine run_aops hA 2 _ _ _ _ (by cbv) ?_
  refine ops_callV rfl rfl (by cbv) (by cbv) hcal (.inl trivial) (by cbv) ?_
  refine run_aops hA 2 _ _ _ _ (by cbv) ?_
  refine ops_done ?_
  refine go_ret (closed (by cbv) ?_)
  refine congrArg PV.bool ?_
  subst hA
  rw [hb, ← idxOf_any _ xs 0, ← hr]
  rfl
end Go.Av

