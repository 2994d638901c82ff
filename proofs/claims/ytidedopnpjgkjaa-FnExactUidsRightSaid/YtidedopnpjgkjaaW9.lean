/- Walks: UidsRight, the specification. -/
import Derived.Test.YtidedopnpjgkjaaW8
namespace Go.Av
open Go Go.Proofs
set_option maxRecDepth 100000
set_option maxHeartbeats 4000000
set_option linter.unusedVariables false
set_option linter.unusedSimpArgs false

def S21 (rows : List (List PV)) (z : Int) : St := { sl := [.bad, .pt 1 0 0, .bool false, .int .i64 z, .bad, .bad, .bad, .bad, .bad, .bad, .bad, .bad, .bad, .bad, .bad, .bad, .bad, .bad, .bad, .bad, .bad, .bad, .bad, .bad, .bad, .bad, .bad, .bad, .bad, .bad, .bad, .bad, .bad, .bad, .bad, .bad, .bad, .bad, .bad, .bad, .bad, .bad, .bad, .bad, .bad, .bad, .bad, .bad, .bad, .bad, .bad, .bad, .bad], bl := [(1, ⟨.var, 1, [[.sl 5 rows]]⟩)] }
def S21b (rows : List (List PV)) (z id : Int) (name tag : ByteArray) (next : Int) (mrows : List (List PV)) (k : Int) : St := { sl := [.bad, .pt 1 0 0, .bool false, .int .i64 z, .pt 4 0 0, .int .i64 k, .bad, .bad, .bad, .bad, .bad, .bad, .bad, .bad, .bad, .bad, .bad, .bad, .bad, .bad, .bad, .bad, .bad, .bad, .bad, .bad, .bad, .bad, .bad, .bad, .bad, .bad, .bad, .bad, .bad, .bad, .bad, .bad, .bad, .bad, .bad, .bad, .bad, .bad, .bad, .bad, .bad, .bad, .bad, .bad, .bad, .bad, .bad], bl := [(4, ⟨.var, 5, [[.int .i64 id, .str name, .str tag, .int .i64 next, .sl 3 mrows]]⟩), (1, ⟨.var, 1, [[.sl 5 rows]]⟩)] }
def S21c (rows : List (List PV)) (z id : Int) (name tag : ByteArray) (next : Int) (mrows : List (List PV)) (k j : Int) : St := { sl := [.bad, .pt 1 0 0, .bool false, .int .i64 z, .pt 4 0 0, .int .i64 k, .int .i64 j, .bad, .bad, .bad, .bad, .bad, .bad, .bad, .bad, .bad, .bad, .bad, .bad, .bad, .bad, .bad, .bad, .bad, .bad, .bad, .bad, .bad, .bad, .bad, .bad, .bad, .bad, .bad, .bad, .bad, .bad, .bad, .bad, .bad, .bad, .bad, .bad, .bad, .bad, .bad, .bad, .bad, .bad, .bad, .bad, .bad, .bad], bl := [(4, ⟨.var, 5, [[.int .i64 id, .str name, .str tag, .int .i64 next, .sl 3 mrows]]⟩), (1, ⟨.var, 1, [[.sl 5 rows]]⟩)] }

theorem real21 (A : Alg) (hA : A = std) (x : State) (hsz : x.boxes.length ≤ 1048576) (hms : ∀ b ∈ x.boxes, b.mails.length ≤ 1048576) (b : Bool) (hb : b = x.boxes.all okBox) : Real Try.prog 21 [.agg [.sl 5 x.rows]] (.bool b) := by
  subst hb
  obtain ⟨boxes, rows, rowsO, hr, ho⟩ := x
  have hal : A.rlen rows = (boxes.length : Int) := by subst hA; simp [std, hr]
  refine real tyOk Try.func21 (by kernel_rfl) (afun_of rfl ?_)
  refine go_seq ?_
  refine go_reg ?_
  refine run_aops hA 2 _ _ _ _ (by cbv) ?_
  refine ops_done ?_
  refine go_seq ?_
  refine go_seq ?_
  refine go_reg ?_
  refine run_aops hA 1 _ _ _ _ (by cbv) ?_
  refine ops_done ?_
  refine go_block ?_
  refine go_loop (fun i => S21 rows (Int.ofNat i)) (fun i => (boxes.take i).all okBox = true) boxes.length [] [1, 2, 3] [1] rfl (by cbv) rfl (fun i hi hinv => ?_)
  refine go_seq ?_
  refine go_seq ?_
  refine go_reg ?_
  refine run_aops hA 5 _ _ _ _ (by cbv) ?_
  refine ops_done ?_
  refine go_cond rfl (fun c1 => ?_) (fun c1 => ?_)
  · skip
    refine go_skip ?_
    refine go_seq ?_
    refine go_block ?_
    refine go_seq ?_
    have hlt : i < boxes.length := by
      have c1 : A.cmp .lss (Int.ofNat i) (A.rlen rows) = true := c1
      rw [hal] at c1
      subst hA
      simp only [std, decide_eq_true_eq] at c1
      exact Int.ofNat_lt.1 c1
    obtain ⟨x, hx0⟩ : ∃ x, boxes[i]? = some x := ⟨boxes[i], by simp [hlt]⟩
    have hx := map_at encBox hr hx0
    have hok : okBox x = okFrom x.next [] x.mails := rfl
    have hmsx := hms x (List.mem_of_getElem? hx0)
    have htk : (boxes.take (i + 1)).all okBox = okBox x := by
      rw [List.take_add_one, hx0]; simp [hinv]
    have hall : boxes.all okBox = (okBox x && (boxes.drop (i + 1)).all okBox) := by
      rw [← htk, ← List.all_append, List.take_append_drop]
    obtain ⟨id, name, tag, next, mails, mrows, hm⟩ := x
    simp only at hok hmsx
    have hml : A.rlen mrows = (mails.length : Int) := by subst hA; simp [std, hm]
    refine go_reg ?_
    refine run_aops hA 3 _ _ _ _ (by cbv) ?_
    refine ops_step rfl rfl (idx_sl rfl rfl rfl rfl rfl (Int.natCast_nonneg i) rfl hx) ?_
    refine run_aops hA 3 _ _ _ _ (by cbv) ?_
    refine ops_done ?_
    refine go_seq ?_
    refine go_reg ?_
    refine run_aops hA 1 _ _ _ _ (by cbv) ?_
    refine ops_done ?_
    refine go_block ?_
    refine go_loop (fun k => S21b rows (Int.ofNat i) id name tag next mrows (Int.ofNat k)) (fun k => okFrom next [] mails = okFrom next (mails.take k) (mails.drop k)) mails.length [] [1, 2, 3, 4, 5] [1, 4] rfl (by cbv) rfl (fun k hk hinv2 => ?_)
    refine go_seq ?_
    refine go_seq ?_
    refine go_reg ?_
    refine run_aops hA 5 _ _ _ _ (by cbv) ?_
    refine ops_done ?_
    refine go_cond rfl (fun c2 => ?_) (fun c2 => ?_)
    · skip
      refine go_skip ?_
      refine go_seq ?_
      refine go_block ?_
      refine go_seq ?_
      refine go_seq ?_
      have hlt2 : k < mails.length := by
        have c2 : A.cmp .lss (Int.ofNat k) (A.rlen mrows) = true := c2
        rw [hml] at c2
        subst hA
        simp only [std, decide_eq_true_eq] at c2
        exact Int.ofNat_lt.1 c2
      obtain ⟨m, hm0⟩ : ∃ m, mails[k]? = some m := ⟨mails[k], by simp [hlt2]⟩
      have hmx := map_at encMail hm hm0
      have hdr : mails.drop k = m :: mails.drop (k + 1) := by
        rw [List.drop_eq_getElem_cons hlt2]
        have : mails[k] = m := (List.getElem?_eq_some_iff.1 hm0).2
        rw [this]
      have hpre : mails.take (k + 1) = mails.take k ++ [m] := by rw [List.take_add_one, hm0]; rfl
      obtain ⟨uid, flag, text⟩ := m
      have hmx : mrows[k]? = some [.int .i64 uid, .int .i64 flag, .str text] := hmx
      have hstep : okFrom next [] mails = (!(decide (uid ≥ next) || (mails.take k).any (fun q => q.uid == uid)) && okFrom next (mails.take (k + 1)) (mails.drop (k + 1))) := by
        rw [hinv2, hdr, okFrom, hpre]
      refine go_draw (by cbv) ?_
      refine run_dops hA 3 _ _ _ _ (by cbv) ?_
      refine dops_step rfl rfl rfl (idx_sl rfl rfl rfl rfl rfl (Int.natCast_nonneg k) rfl hmx) ?_
      refine run_dops hA 5 _ _ _ _ (by cbv) ?_
      refine dops_done ?_
      refine go_cond rfl (fun c3 => ?_) (fun c3 => ?_)
      · skip
        refine go_seq ?_
        refine go_reg ?_
        refine run_aops hA 1 _ _ _ _ (by cbv) ?_
        refine ops_done ?_
        refine go_ret (closed (by cbv) ?_)
        refine congrArg PV.bool ?_
        subst hA
        simp only [std, decide_eq_true_eq] at c3
        rw [hall, hok, hstep]
        simp [c3]
      · skip
        refine go_skip ?_
        refine go_seq ?_
        refine go_reg ?_
        refine run_aops hA 1 _ _ _ _ (by cbv) ?_
        refine ops_done ?_
        refine go_block ?_
        refine go_loop (fun j => S21c rows (Int.ofNat i) id name tag next mrows (Int.ofNat k) (Int.ofNat j)) (fun j => (mails.take j).any (fun q => q.uid == uid) = false) k [] [1, 2, 3, 4, 5, 6] [1, 4] rfl (by cbv) rfl (fun j hj hinv3 => ?_)
        refine go_seq ?_
        refine go_seq ?_
        refine go_reg ?_
        refine run_aops hA 3 _ _ _ _ (by cbv) ?_
        refine ops_done ?_
        refine go_cond rfl (fun c4 => ?_) (fun c4 => ?_)
        · skip
          refine go_skip ?_
          refine go_seq ?_
          refine go_block ?_
          refine go_seq ?_
          have hlt3 : j < k := by
            subst hA
            simp only [std, decide_eq_true_eq] at c4
            exact Int.ofNat_lt.1 c4
          obtain ⟨y, hy0⟩ : ∃ y, mails[j]? = some y := ⟨mails[j]'(by omega), by simp⟩
          have hmy := map_at encMail hm hy0
          have htk3 : (mails.take (j + 1)).any (fun q => q.uid == uid) = (y.uid == uid) := by rw [List.take_add_one, hy0]; simp [hinv3]
          obtain ⟨uid2, flag2, text2⟩ := y
          have hmy : mrows[j]? = some [.int .i64 uid2, .int .i64 flag2, .str text2] := hmy
          refine go_draw (by cbv) ?_
          refine run_dops hA 3 _ _ _ _ (by cbv) ?_
          refine dops_step rfl rfl rfl (idx_sl rfl rfl rfl rfl rfl (Int.natCast_nonneg j) rfl hmy) ?_
          refine run_dops hA 5 _ _ _ _ (by cbv) ?_
          refine dops_step rfl rfl rfl (idx_sl rfl rfl rfl rfl rfl (Int.natCast_nonneg k) rfl hmx) ?_
          refine run_dops hA 3 _ _ _ _ (by cbv) ?_
          refine dops_done ?_
          refine go_cond rfl (fun c5 => ?_) (fun c5 => ?_)
          · skip
            refine go_seq ?_
            refine go_reg ?_
            refine run_aops hA 1 _ _ _ _ (by cbv) ?_
            refine ops_done ?_
            refine go_ret (closed (by cbv) ?_)
            refine congrArg PV.bool ?_
            subst hA
            simp only [std] at c5
            have hany : (mails.take k).any (fun q => q.uid == uid) = true := by
              have hsub : mails.take k = mails.take (j + 1) ++ (mails.take k).drop (j + 1) := by
                rw [show mails.take (j + 1) = (mails.take k).take (j + 1) by rw [List.take_take, Nat.min_eq_left (by omega)], List.take_append_drop]
              rw [hsub, List.any_append, htk3, c5]
              rfl
            rw [hall, hok, hstep, hany]
            simp
          · skip
            refine go_skip ?_
            refine go_reg ?_
            refine run_aops hA 3 _ _ _ _ (by cbv) ?_
            refine ops_done ?_
            refine ⟨hlt3, ?_, ?_⟩
            · rw [htk3]
              subst hA
              exact c5
            · have hnum : A.num .add .i64 (Int.ofNat j) 1 = Int.ofNat (j + 1) := by
                subst hA
                exact inc_nat (by omega)
              exact Eq.trans (b := S21c rows (Int.ofNat i) id name tag next mrows (Int.ofNat k) (A.num .add .i64 (Int.ofNat j) 1)) (by cbv) (congrArg (S21c rows (Int.ofNat i) id name tag next mrows (Int.ofNat k)) hnum)
        · skip
          refine go_exit ⟨fun _ => ?_, fun h => absurd rfl h⟩
          refine go_reg ?_
          refine run_aops hA 3 _ _ _ _ (by cbv) ?_
          refine ops_done ?_
          have hjk : j = k := by
            subst hA
            simp only [std, decide_eq_false_iff_not] at c4
            exact Nat.le_antisymm hj (Nat.le_of_not_lt fun h => c4 (Int.ofNat_lt.2 h))
          have hinv4 : okFrom next [] mails = okFrom next (mails.take (k + 1)) (mails.drop (k + 1)) := by
            subst hjk
            subst hA
            simp only [std, decide_eq_false_iff_not] at c3
            rw [hstep, hinv3]
            simp [c3]
          refine ⟨hlt2, hinv4, ?_⟩
          have hnum : A.num .add .i64 (Int.ofNat k) 1 = Int.ofNat (k + 1) := by
            subst hA
            exact inc_nat (by omega)
          exact Eq.trans (b := S21b rows (Int.ofNat i) id name tag next mrows (A.num .add .i64 (Int.ofNat k) 1)) (by cbv) (congrArg (S21b rows (Int.ofNat i) id name tag next mrows) hnum)
    · skip
      refine go_exit ⟨fun _ => ?_, fun h => absurd rfl h⟩
      refine go_reg ?_
      refine run_aops hA 3 _ _ _ _ (by cbv) ?_
      refine ops_done ?_
      have hge2 : mails.length ≤ k := by
        have c2 : A.cmp .lss (Int.ofNat k) (A.rlen mrows) = false := c2
        rw [hml] at c2
        subst hA
        simp only [std, decide_eq_false_iff_not] at c2
        exact Nat.le_of_not_lt fun h => c2 (Int.ofNat_lt.2 h)
      have hbx : okFrom next [] mails = true := by rw [hinv2, List.drop_of_length_le hge2]; rfl
      refine ⟨hlt, by rw [htk, hok, hbx], ?_⟩
      have hnum : A.num .add .i64 (Int.ofNat i) 1 = Int.ofNat (i + 1) := by
        subst hA
        exact inc_nat (by have : boxes.length ≤ 1048576 := hsz; omega)
      exact Eq.trans (b := S21 rows (A.num .add .i64 (Int.ofNat i) 1)) (by cbv) (congrArg (S21 rows) hnum)
  · skip
    refine go_exit ⟨fun _ => ?_, fun h => absurd rfl h⟩
    refine go_seq ?_
    refine go_reg ?_
    refine run_aops hA 1 _ _ _ _ (by cbv) ?_
    refine ops_done ?_
    refine go_ret (closed (by cbv) ?_)
    refine congrArg PV.bool ?_
    have hge2 : boxes.length ≤ i := by
      have c1 : A.cmp .lss (Int.ofNat i) (A.rlen rows) = false := c1
      rw [hal] at c1
      subst hA
      simp only [std, decide_eq_false_iff_not] at c1
      exact Nat.le_of_not_lt fun h => c1 (Int.ofNat_lt.2 h)
    rw [List.take_of_length_le hge2] at hinv
    exact hinv
end Go.Av


