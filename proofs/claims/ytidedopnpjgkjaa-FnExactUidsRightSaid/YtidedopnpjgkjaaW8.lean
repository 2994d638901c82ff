/- Walks: UidsRight, the implementation. -/
import Derived.Test.YtidedopnpjgkjaaW7
namespace Go.Av
open Go Go.Proofs
set_option maxRecDepth 100000
set_option maxHeartbeats 4000000
set_option linter.unusedVariables false
set_option linter.unusedSimpArgs false

def okFrom (next : Int) : List Mail → List Mail → Bool
  | _, [] => true
  | pre, m :: rest => !(decide (m.uid ≥ next) || pre.any (fun q => q.uid == m.uid)) && okFrom next (pre ++ [m]) rest
def okBox (x : Box) : Bool := okFrom x.next [] x.mails

def S23 (rows : List (List PV)) (ln z : Int) : St := { sl := [.bad, .pt 1 0 0, .bool false, .bad, .bad, .bad, .bad, .bad, .sl 5 rows, .int .i64 ln, .int .i64 z, .bad, .bad, .bad, .bad, .bad, .bad, .bad, .bad, .bad, .bad, .bad, .bad, .bad, .bad, .bad, .bad, .bad, .bad, .bad, .bad, .bad, .bad, .bad, .bad, .bad, .bad], bl := [(1, ⟨.var, 1, [[.sl 5 rows]]⟩)] }
def S23b (rows : List (List PV)) (ln z : Int) (id : Int) (name tag : ByteArray) (next : Int) (mrows : List (List PV)) (lm k : Int) : St := { sl := [.bad, .pt 1 0 0, .bool false, .bad, .pt 4 0 0, .bad, .bad, .bad, .sl 5 rows, .int .i64 ln, .int .i64 z, .bad, .bad, .bad, .bad, .sl 3 mrows, .int .i64 lm, .int .i64 k, .bad, .bad, .bad, .bad, .bad, .bad, .bad, .bad, .bad, .bad, .bad, .bad, .bad, .bad, .bad, .bad, .bad, .bad, .bad], bl := [(4, ⟨.var, 5, [[.int .i64 id, .str name, .str tag, .int .i64 next, .sl 3 mrows]]⟩), (1, ⟨.var, 1, [[.sl 5 rows]]⟩)] }

theorem real23 (A : Alg) (hA : A = std) (x : State) (hsz : x.boxes.length ≤ 1048576) (hms : ∀ b ∈ x.boxes, b.mails.length ≤ 1048576) (b : Bool) (hb : b = x.boxes.all okBox) : Real Try.prog 23 [.agg [.sl 5 x.rows]] (.bool b) := by
  subst hb
  obtain ⟨boxes, rows, rowsO, hr, ho⟩ := x
  have hal : A.rlen rows = (boxes.length : Int) := by subst hA; simp [std, hr]
  refine real tyOk Try.func23 (by kernel_rfl) (afun_of rfl ?_)
  refine go_seq ?_
  refine go_reg ?_
  refine run_aops hA 2 _ _ _ _ (by cbv) ?_
  refine ops_done ?_
  refine go_seq ?_
  refine go_seq ?_
  refine go_reg ?_
  refine run_aops hA 4 _ _ _ _ (by cbv) ?_
  refine ops_done ?_
  refine go_block ?_
  refine go_loop (fun i => S23 rows (A.rlen rows) (Int.ofNat i)) (fun i => (boxes.take i).all okBox = true) boxes.length [] [1, 2, 8, 9, 10] [1] rfl (by cbv) rfl (fun i hi hinv => ?_)
  refine go_seq ?_
  refine go_reg ?_
  refine run_aops hA 1 _ _ _ _ (by cbv) ?_
  refine ops_done ?_
  refine go_seq ?_
  refine go_cond rfl (fun c1 => ?_) (fun c1 => ?_)
  · skip
    refine go_skip ?_
    refine go_seq ?_
    refine go_block ?_
    refine go_seq ?_
    have hlt : i < boxes.length := by
      have c1 : A.cmp .lss (Int.ofNat i) (A.rlen rows) = true := c1
      rw [hal] at c1
      subst hA
      simp only [std, decide_eq_true_eq] at c1
      exact Int.ofNat_lt.1 c1
    obtain ⟨x, hx0⟩ : ∃ x, boxes[i]? = some x := ⟨boxes[i], by simp [hlt]⟩
    have hx := map_at encBox hr hx0
    have hok : okBox x = okFrom x.next [] x.mails := rfl
    have hmsx := hms x (List.mem_of_getElem? hx0)
    have htk : (boxes.take (i + 1)).all okBox = okBox x := by
      rw [List.take_add_one, hx0]; simp [hinv]
    have hall : boxes.all okBox = (okBox x && (boxes.drop (i + 1)).all okBox) := by
      rw [← htk, ← List.all_append, List.take_append_drop]
    obtain ⟨id, name, tag, next, mails, mrows, hm⟩ := x
    simp only at hok hmsx
    have hml : A.rlen mrows = (mails.length : Int) := by subst hA; simp [std, hm]
    refine go_reg ?_
    refine ops_step rfl rfl (idx_sl rfl rfl rfl rfl rfl (Int.natCast_nonneg i) rfl hx) ?_
    refine run_aops hA 3 _ _ _ _ (by cbv) ?_
    refine ops_done ?_
    refine go_seq ?_
    refine go_reg ?_
    refine run_aops hA 4 _ _ _ _ (by cbv) ?_
    refine ops_done ?_
    refine go_block ?_
    refine go_loop (fun k => S23b rows (A.rlen rows) (Int.ofNat i) id name tag next mrows (A.rlen mrows) (Int.ofNat k)) (fun k => okFrom next [] mails = okFrom next (mails.take k) (mails.drop k)) mails.length [] [1, 2, 4, 8, 9, 10, 15, 16, 17] [1, 4] rfl (by cbv) rfl (fun k hk hinv2 => ?_)
    refine go_seq ?_
    refine go_reg ?_
    refine run_aops hA 1 _ _ _ _ (by cbv) ?_
    refine ops_done ?_
    refine go_seq ?_
    refine go_cond rfl (fun c2 => ?_) (fun c2 => ?_)
    · skip
      refine go_skip ?_
      refine go_seq ?_
      refine go_block ?_
      refine go_seq ?_
      have hlt2 : k < mails.length := by
        have c2 : A.cmp .lss (Int.ofNat k) (A.rlen mrows) = true := c2
        rw [hml] at c2
        subst hA
        simp only [std, decide_eq_true_eq] at c2
        exact Int.ofNat_lt.1 c2
      obtain ⟨m, hm0⟩ : ∃ m, mails[k]? = some m := ⟨mails[k], by simp [hlt2]⟩
      have hmx := map_at encMail hm hm0
      have hdr : mails.drop k = m :: mails.drop (k + 1) := by
        rw [List.drop_eq_getElem_cons hlt2]
        have : mails[k] = m := (List.getElem?_eq_some_iff.1 hm0).2
        rw [this]
      have hpre : mails.take (k + 1) = mails.take k ++ [m] := by rw [List.take_add_one, hm0]; rfl
      obtain ⟨uid, flag, text⟩ := m
      have hmx : mrows[k]? = some [.int .i64 uid, .int .i64 flag, .str text] := hmx
      obtain ⟨pr, hpr⟩ : ∃ pr, pr = (mrows.drop 0).take (k - 0) := ⟨_, rfl⟩
      have hpr2 : pr = (mails.take k).map encMail := by rw [hpr, hm]; simp
      obtain ⟨b, hb⟩ : ∃ b, b = (mails.take k).any (fun q => q.uid == uid) := ⟨_, rfl⟩
      have hcal := real47 A hA uid flag text (mails.take k) pr hpr2 (by simp; omega) b hb
      have hstep : okFrom next [] mails = (!(decide (uid ≥ next) || b) && okFrom next (mails.take (k + 1)) (mails.drop (k + 1))) := by
        rw [hinv2, hdr, okFrom, hpre, hb]
      refine go_reg ?_
      refine run_aops hA 1 _ _ _ _ (by cbv) ?_
      refine ops_step rfl rfl (idx_sl rfl rfl rfl rfl rfl (Int.natCast_nonneg k) rfl hmx) ?_
      refine run_aops hA 4 _ _ _ _ (by cbv) ?_
      refine ops_done ?_
      refine go_seq ?_
      refine go_reg ?_
      refine run_aops hA 6 _ _ _ _ (by cbv) ?_
      refine ops_split 27 rfl (fun c3 => ?_) (fun c3 => ?_)
      · skip
        refine run_aops hA 7 _ _ _ _ (by cbv) ?_
        refine ops_done ?_
        refine go_cond rfl (fun c4 => ?_) (fun c4 => ?_)
        · skip
          refine go_seq ?_
          refine go_reg ?_
          refine run_aops hA 1 _ _ _ _ (by cbv) ?_
          refine ops_done ?_
          refine go_ret (closed (by cbv) ?_)
          refine congrArg PV.bool ?_
          subst hA
          simp only [std, decide_eq_true_eq] at c3
          rw [hall, hok, hstep]
          simp [c3]
        · skip
          refine go_skip ?_
          refine go_reg ?_
          refine run_aops hA 2 _ _ _ _ (by cbv) ?_
          refine ops_done ?_
          first
            | exact absurd c4 (by decide)
            | skip
              have hinv3 : okFrom next [] mails = okFrom next (mails.take (k + 1)) (mails.drop (k + 1)) := by
                subst hA
                simp only [std, decide_eq_false_iff_not] at c3
                rw [hstep]
                simp [c4, c3]
              refine ⟨hlt2, hinv3, ?_⟩
              have hnum : A.num .add .i64 (Int.ofNat k) 1 = Int.ofNat (k + 1) := by
                subst hA
                exact inc_nat (by omega)
              exact Eq.trans (b := S23b rows (A.rlen rows) (Int.ofNat i) id name tag next mrows (A.rlen mrows) (A.num .add .i64 (Int.ofNat k) 1)) (by cbv) (congrArg (S23b rows (A.rlen rows) (Int.ofNat i) id name tag next mrows (A.rlen mrows)) hnum)
      · skip
        refine run_aops hA 3 _ _ _ _ (by cbv) ?_
        refine ops_stepG rfl rfl rfl rfl (slc_sl (l := 0) (h := Int.ofNat k) rfl rfl rfl rfl rfl rfl (by omega) (Int.natCast_nonneg k) (by show (Int.ofNat k) ≤ (mrows.length : Int); rw [hm, List.length_map]; exact Int.ofNat_le.2 hk) rfl hpr) ?_
        refine run_aops hA 1 _ _ _ _ (by cbv) ?_
        refine ops_callG rfl rfl rfl rfl (by cbv) (by cbv) hcal (.inl trivial) (by cbv) ?_
        refine run_aops hA 1 _ _ _ _ (by cbv) ?_
        refine ops_done ?_
        refine go_cond rfl (fun c5 => ?_) (fun c5 => ?_)
        · skip
          refine go_seq ?_
          refine go_reg ?_
          refine run_aops hA 1 _ _ _ _ (by cbv) ?_
          refine ops_done ?_
          refine go_ret (closed (by cbv) ?_)
          refine congrArg PV.bool ?_
          rw [hall, hok, hstep]
          simp [c5]
        · skip
          refine go_skip ?_
          refine go_reg ?_
          refine run_aops hA 2 _ _ _ _ (by cbv) ?_
          refine ops_done ?_
          first
            | exact absurd c5 (by decide)
            | skip
              have hinv3 : okFrom next [] mails = okFrom next (mails.take (k + 1)) (mails.drop (k + 1)) := by
                subst hA
                simp only [std, decide_eq_false_iff_not] at c3
                rw [hstep]
                simp [c5, c3]
              refine ⟨hlt2, hinv3, ?_⟩
              have hnum : A.num .add .i64 (Int.ofNat k) 1 = Int.ofNat (k + 1) := by
                subst hA
                exact inc_nat (by omega)
              exact Eq.trans (b := S23b rows (A.rlen rows) (Int.ofNat i) id name tag next mrows (A.rlen mrows) (A.num .add .i64 (Int.ofNat k) 1)) (by cbv) (congrArg (S23b rows (A.rlen rows) (Int.ofNat i) id name tag next mrows (A.rlen mrows)) hnum)
    · skip
      refine go_exit ⟨fun _ => ?_, fun h => absurd rfl h⟩
      refine go_reg ?_
      refine run_aops hA 2 _ _ _ _ (by cbv) ?_
      refine ops_done ?_
      have hge2 : mails.length ≤ k := by
        have c2 : A.cmp .lss (Int.ofNat k) (A.rlen mrows) = false := c2
        rw [hml] at c2
        subst hA
        simp only [std, decide_eq_false_iff_not] at c2
        exact Nat.le_of_not_lt fun h => c2 (Int.ofNat_lt.2 h)
      have hbx : okFrom next [] mails = true := by rw [hinv2, List.drop_of_length_le hge2]; rfl
      refine ⟨hlt, by rw [htk, hok, hbx], ?_⟩
      have hnum : A.num .add .i64 (Int.ofNat i) 1 = Int.ofNat (i + 1) := by
        subst hA
        exact inc_nat (by have : boxes.length ≤ 1048576 := hsz; omega)
      exact Eq.trans (b := S23 rows (A.rlen rows) (A.num .add .i64 (Int.ofNat i) 1)) (by cbv) (congrArg (S23 rows (A.rlen rows)) hnum)
  · skip
    refine go_exit ⟨fun _ => ?_, fun h => absurd rfl h⟩
    refine go_seq ?_
    refine go_reg ?_
    refine run_aops hA 1 _ _ _ _ (by cbv) ?_
    refine ops_done ?_
    refine go_ret (closed (by cbv) ?_)
    refine congrArg PV.bool ?_
    have hge2 : boxes.length ≤ i := by
      have c1 : A.cmp .lss (Int.ofNat i) (A.rlen rows) = false := c1
      rw [hal] at c1
      subst hA
      simp only [std, decide_eq_false_iff_not] at c1
      exact Nat.le_of_not_lt fun h => c1 (Int.ofNat_lt.2 h)
    rw [List.take_of_length_le hge2] at hinv
    exact hinv
end Go.Av

