/- Walks: words, lists of words. -/
import Derived.Test.YtjbokkoiicoahaaTy
namespace Go.Av
open Go Go.Proofs
set_option maxRecDepth 100000
set_option maxHeartbeats 4000000
set_option linter.unusedVariables false
set_option linter.unusedSimpArgs false
def inR (n lo hi : Int) : Bool := decide (lo ≤ n) && decide (n ≤ hi)
def wdFrom (s : ByteArray) : Nat → Nat → Bool
  | _, 0 => true
  | i, n + 1 => (!(decide (byteAt s (i : Int) < 97)) && !(decide (122 < byteAt s (i : Int)))) && wdFrom s (i + 1) n
def wdB (s : ByteArray) : Bool := wdFrom s 0 s.size
def wordOk (s : ByteArray) : Bool := inR (s.size : Int) 1 8 && wdB s
def textOk (s : ByteArray) : Bool := decide (s = ByteArray.mk #[]) || wordOk s
theorem wd_step {s : ByteArray} {i : Nat} (h : i < s.size) : wdFrom s i (s.size - i) = ((!(decide (byteAt s (i : Int) < 97)) && !(decide (122 < byteAt s (i : Int)))) && wdFrom s (i + 1) (s.size - (i + 1))) := by
 have e : s.size - i = (s.size - (i + 1)) + 1 := by omega
 rw [e]; rfl
theorem wd_end {s : ByteArray} {i : Nat} (h : s.size ≤ i) : wdFrom s i (s.size - i) = true := by
 have e : s.size - i = 0 := by omega
 rw [e]; rfl
theorem any_at {α : Type} {p : α → Bool} {xs : List α} {i : Nat} {x : α} (h : xs[i]? = some x) : (xs.drop i).any p = (p x || (xs.drop (i + 1)).any p) := by
 obtain ⟨hl, rfl⟩ := List.getElem?_eq_some_iff.1 h
 rw [List.drop_eq_getElem_cons hl]; rfl
theorem all_at {α : Type} {p : α → Bool} {xs : List α} {i : Nat} {x : α} (h : xs[i]? = some x) : (xs.drop i).all p = (p x && (xs.drop (i + 1)).all p) := by
 obtain ⟨hl, rfl⟩ := List.getElem?_eq_some_iff.1 h
 rw [List.drop_eq_getElem_cons hl]; rfl
def memB (v : ByteArray) (xs : List ByteArray) : Bool := xs.any (fun x => decide (x = v))
def ixF {α : Type} (p : α → Bool) : List α → Nat → Int
  | [], _ => -1
  | x :: xs, i => if p x then (i : Int) else ixF p xs (i + 1)
theorem ix_at {α : Type} {p : α → Bool} {xs : List α} {i : Nat} {x : α} (h : xs[i]? = some x) : ixF p (xs.drop i) i = if p x then (i : Int) else ixF p (xs.drop (i + 1)) (i + 1) := by
 obtain ⟨hl, rfl⟩ := List.getElem?_eq_some_iff.1 h
 rw [List.drop_eq_getElem_cons hl]; rfl
theorem ix_end {α : Type} {p : α → Bool} {xs : List α} {i : Nat} (h : xs.length ≤ i) : ixF p (xs.drop i) i = -1 := by
 rw [List.drop_of_length_le h]; rfl
theorem ix_any {α : Type} {p : α → Bool} : ∀ (xs : List α) (i : Nat), decide (0 ≤ ixF p xs i) = xs.any p
  | [], i => rfl
  | x :: xs, i => by
    by_cases hp : p x = true
    · simp [ixF, hp]
    · simpa [ixF, hp] using ix_any xs (i + 1)
theorem ix_any' {A : Alg} (hA : A = std) {α : Type} {p : α → Bool} (xs : List α) : A.cmp .geq (ixF p xs 0) 0 = xs.any p := by
 subst hA; exact ix_any xs 0
def toGo : List ByteArray → List ByteArray → Bool
  | _, [] => true
  | pre, x :: xs => (wordOk x && !(memB x pre)) && toGo (pre ++ [x]) xs
theorem to_at {xs : List ByteArray} {i : Nat} {x : ByteArray} (h : xs[i]? = some x) : toGo (xs.take i) (xs.drop i) = ((wordOk x && !(memB x (xs.take i))) && toGo (xs.take (i + 1)) (xs.drop (i + 1))) := by
 rw [List.take_add_one, h]
 obtain ⟨hl, rfl⟩ := List.getElem?_eq_some_iff.1 h
 rw [List.drop_eq_getElem_cons hl]; rfl
theorem to_end {xs : List ByteArray} {i : Nat} (h : xs.length ≤ i) : toGo (xs.take i) (xs.drop i) = true := by
 rw [List.drop_of_length_le h]; rfl
def incFrom (f : Nat → Int) : Nat → Nat → Bool
  | _, 0 => true
  | i, n + 1 => (decide (i = 0) || !(decide (f i ≤ f (i - 1)))) && incFrom f (i + 1) n
theorem inc_at {f : Nat → Int} {i m : Nat} (h : i < m) : incFrom f i (m - i) = ((decide (i = 0) || !(decide (f i ≤ f (i - 1)))) && incFrom f (i + 1) (m - (i + 1))) := by
 have e : m - i = (m - (i + 1)) + 1 := by omega
 rw [e]; rfl
theorem inc_end {f : Nat → Int} {i m : Nat} (h : m ≤ i) : incFrom f i (m - i) = true := by
 have e : m - i = 0 := by omega
 rw [e]; rfl
theorem inc_1 {f : Nat → Int} (m : Nat) : incFrom f 0 m = incFrom f 1 (m - 1) := by
  cases m with
  | zero => rfl
  | succ n => simp [incFrom]
def fU (xs : List Int) (i : Nat) : Int := (xs[i]?).getD 0
def fM (xs : List GMail) (i : Nat) : Int := ((xs[i]?).map GMail.Uid).getD 0
theorem fU_at {xs : List Int} {i : Nat} {x : Int} (h : xs[i]? = some x) : fU xs i = x := by simp [fU, h]
theorem fM_at {xs : List GMail} {i : Nat} {x : GMail} (h : xs[i]? = some x) : fM xs i = x.Uid := by simp [fM, h]
def lineB (s : ByteArray) : Bool := decide (80 < (s.size : Int))
def bringOk (b : GBring) : Bool := (((inR b.State 0 4 && textOk b.From) && !(decide (3 < (b.To.length : Int)))) && !(decide (101 < (b.Data.length : Int)))) && (toGo [] b.To && !(b.Data.any lineB))
def fetchOk (f : GFetch) : Bool := (((inR f.State 0 2 && textOk f.User) && !(decide (8 < (f.Mails.length : Int)))) && decide ((f.Gone.length : Int) = (f.Mails.length : Int))) && incFrom (fM f.Mails) 0 f.Mails.length
def lookOk (k : GLook) : Bool := ((((inR k.State 0 2 && textOk k.User) && textOk k.Box) && inR k.Valid 0 9999) && !(decide (8 < (k.Uids.length : Int)))) && incFrom (fU k.Uids) 0 k.Uids.length
def sesBad (x : GSession) : Bool := ((!(bringOk x.Bring) || !(fetchOk x.Fetch)) || !(lookOk x.Look)) || decide (400 < (x.In.size : Int))
theorem r_impl_in (A : Alg) (hA : A = std) (n : Int) (lo : Int) (hi : Int)  : Real Try.prog 101 [.int .i64 n, .int .i64 lo, .int .i64 hi] (.bool (inR n lo hi)) := by
 refine real_args (args' := [.int .i64 n, .int .i64 lo, .int .i64 hi]) (by rfl) ?_
 refine real tyOk Try.func101 (by kernel_rfl) (afun_of rfl ?_)
 refine gs (gr (ra hA 1 (by cbv) (od ?_)))
 refine gs (gr (ra hA 4 (by cbv) ?_))
 refine ops_split 10 rfl (fun c1 => ?_) (fun c1 => ?_)
 ·
  have ec1 : lo ≤ n := geq_t hA c1
  refine ra hA 5 (by cbv) (od ?_)
  refine go_ret ⟨_, by cbv, ?_⟩
  show _ = (PV.bool (A.cmp .leq n hi))
  refine congrArg PV.bool ?_
  try simp only [slen_eq hA] at *
  subst hA
  simp [inR, std, ec1]
 ·
  have ec1 : n < lo := geq_f hA c1
  refine ra hA 5 (by cbv) (od ?_)
  refine go_ret ⟨_, by cbv, ?_⟩
  show _ = (PV.bool false)
  refine congrArg PV.bool ?_
  try simp only [slen_eq hA] at *
  subst hA
  simp [inR, std, ec1, Int.not_le.2 ec1]
theorem r_spec_l01In (A : Alg) (hA : A = std) (n : Int) (lo : Int) (hi : Int)  : Real Try.prog 95 [.int .i64 n, .int .i64 lo, .int .i64 hi] (.bool (inR n lo hi)) := by
 refine real_args (args' := [.int .i64 n, .int .i64 lo, .int .i64 hi]) (by rfl) ?_
 refine real tyOk Try.func95 (by kernel_rfl) (afun_of rfl ?_)
 refine gs (gr (ra hA 1 (by cbv) (od ?_)))
 refine gs (gr (ra hA 4 (by cbv) ?_))
 refine ops_split 10 rfl (fun c1 => ?_) (fun c1 => ?_)
 ·
  have ec1 : lo ≤ n := geq_t hA c1
  refine ra hA 5 (by cbv) (od ?_)
  refine go_ret ⟨_, by cbv, ?_⟩
  show _ = (PV.bool (A.cmp .leq n hi))
  refine congrArg PV.bool ?_
  try simp only [slen_eq hA] at *
  subst hA
  simp [inR, std, ec1]
 ·
  have ec1 : n < lo := geq_f hA c1
  refine ra hA 5 (by cbv) (od ?_)
  refine go_ret ⟨_, by cbv, ?_⟩
  show _ = (PV.bool false)
  refine congrArg PV.bool ?_
  try simp only [slen_eq hA] at *
  subst hA
  simp [inR, std, ec1, Int.not_le.2 ec1]
def S102_1 (p0 : ByteArray) (p1 : Int) (p2 : Int) : St := { sl := [.str p0, .bad, .bad, .bad, .bad, .bad, .bad, .bad, .bad, .int .i64 p1, .int .i64 p2, .bad, .bad, .bad, .bad, .bad, .bad, .bad, .bad, .bad, .bad, .bad, .bad, .bad], bl := [] }
theorem r_impl_WordOk (A : Alg) (hA : A = std) (s : ByteArray) (hz : (ByteArray.size s : Int) ≤ 4611686018427387904) : Real Try.prog 102 [.str s] (.bool (wordOk s)) := by
 refine real_args (args' := [.str s]) (by rfl) ?_
 have zs := slen_eq hA s
 refine real tyOk Try.func102 (by kernel_rfl) (afun_of rfl ?_)
 refine gs (gr (ra hA 1 (by cbv) (od ?_)))
 refine gs (gs (gr (ra hA 2 (by cbv) ?_)))
 obtain ⟨a9, a6, hc2⟩ : ∃ (a9 : Bool), a9 = (inR (A.slen s) 1 8) ∧ Real Try.prog 101 [.int .i64 (A.slen s), .int .i64 1, .int .i64 8] (.bool a9) := ⟨_, rfl, by exact r_impl_in A hA (A.slen s) 1 8 ⟩
 refine ops_callV rfl rfl (by cbv) (by cbv) hc2 (.inr rfl) (by cbv) ?_
 refine ra hA 1 (by cbv) (od ?_)
 refine go_cond rfl (fun c3 => ?_) (fun c3 => ?_)
 ·
  have c4 : a9 = false := bnot_t hA c3
  refine gs (gr (ra hA 1 (by cbv) (od ?_)))
  refine go_ret ⟨_, by cbv, ?_⟩
  show _ = (PV.bool false)
  refine congrArg PV.bool ?_
  try simp only [slen_eq hA] at *
  rw [wordOk]
  subst a6
  subst hA
  simp [std, c4]
 ·
  have c5 : a9 = true := bnot_f hA c3
  refine gk (gs (gs (gr (ra hA 3 (by cbv) (od ?_)))))
  refine go_block ?_
  refine go_loopE (fun σ m => ∃ (i : Nat) (n : Int), σ = (S102_1 s (A.slen s) n) ∧ (n = (i : Int) ∧ i ≤ ByteArray.size s ∧ wdB s = wdFrom s i (ByteArray.size s - i)) ∧ m = ByteArray.size s - i) _ [] [0, 9, 10] [] (S102_1 s (A.slen s) 0) rfl (by cbv) ⟨0, 0, rfl, ?_, rfl⟩ (fun σ m hI => ?_)
  ·
   exact ⟨rfl, Nat.zero_le _, rfl⟩
  obtain ⟨i, n, rfl, ⟨hn, hi, hE⟩, rfl⟩ := hI
  have zs := slen_eq hA s
  refine gs (gr (ra hA 1 (by cbv) (od ?_)))
  refine gs ?_
  refine go_cond rfl (fun c6 => ?_) (fun c6 => ?_)
  ·
   have ec6 : n < (A.slen s) := lss_t hA c6
   refine gk (gs ?_)
   refine go_block ?_
   refine gs (gr (ra hA 2 (by cbv) (od ?_)))
   refine gs (gr (ra hA 2 (by cbv) ?_))
   have zy7 : A.slen s = (ByteArray.size s : Int) := slen_eq hA s
   have c7 : (0 : Int) ≤ n := by omega
   have d1 : n < (ByteArray.size s : Int) := by omega
   obtain ⟨y7, hy7⟩ := nm (byteAt s n : Int)
   refine ops_step rfl rfl (idx_str rfl rfl rfl rfl c7 d1 hy7) ?_
   refine ra hA 2 (by cbv) ?_
   refine ops_split 17 rfl (fun c8 => ?_) (fun c8 => ?_)
   ·
    have ec8 : y7 < 97 := lss_t hA c8
    refine ra hA 5 (by cbv) (od ?_)
    refine go_cond rfl (fun c9 => ?_) (fun c9 => ?_)
    ·
     refine gs (gr (ra hA 1 (by cbv) (od ?_)))
     refine go_ret ⟨_, by cbv, ?_⟩
     show _ = (PV.bool false)
     refine congrArg PV.bool ?_
     try simp only [slen_eq hA] at *
     rw [wordOk, hE, wd_step (by omega)]
     subst hn
     subst hy7 a6
     subst hA
     simp [std, c5, ec6, ec8]
    ·
     exact no_f c9 (show true = true from by rfl)
   ·
    have ec8 : 97 ≤ y7 := lss_f hA c8
    refine ra hA 2 (by cbv) ?_
    have d5 : A.slen s = (ByteArray.size s : Int) := slen_eq hA s
    have c2 : (0 : Int) ≤ n := by omega
    have c0 : n < (ByteArray.size s : Int) := by omega
    obtain ⟨y10, b6⟩ := nm (byteAt s n : Int)
    refine ops_stepG rfl rfl rfl rfl (idx_str rfl rfl rfl rfl c2 c0 b6) ?_
    refine ra hA 2 (by cbv) (od ?_)
    refine go_cond rfl (fun c11 => ?_) (fun c11 => ?_)
    ·
     have b1 : 122 < y10 := gtr_t hA c11
     refine gs (gr (ra hA 1 (by cbv) (od ?_)))
     refine go_ret ⟨_, by cbv, ?_⟩
     show _ = (PV.bool false)
     refine congrArg PV.bool ?_
     try simp only [slen_eq hA] at *
     rw [wordOk, hE, wd_step (by omega)]
     subst hn
     subst b6 hy7 a6
     subst hA
     simp [std, c5, ec6, ec8, Int.not_lt.2 ec8, b1]
    ·
     have b1 : y10 ≤ 122 := gtr_f hA c11
     refine gk (gr (ra hA 2 (by cbv) (od ?_)))
     refine ⟨(S102_1 s (A.slen s) (A.num .add .i64 n 1)), ByteArray.size s - (i + 1), ?_, by cbv, i + 1, (A.num .add .i64 n 1), rfl, ?_, rfl⟩
     ·
      omega
     ·
      refine ⟨by rw [add_i64 hA (by omega) (by omega)]; omega, by omega, ?_⟩
      rw [hE, wd_step (by omega)]
      subst b6 hy7
      subst hn
      simp [c5, ec6, ec8, Int.not_lt.2 ec8, b1, Int.not_lt.2 b1]
  ·
   have ec6 : (A.slen s) ≤ n := lss_f hA c6
   refine go_exit ⟨fun _ => ?_, fun h => absurd rfl h⟩
   refine gs (gr (ra hA 1 (by cbv) (od ?_)))
   refine go_ret ⟨_, by cbv, ?_⟩
   show _ = (PV.bool true)
   refine congrArg PV.bool ?_
   try simp only [slen_eq hA] at *
   rw [wordOk, hE, wd_end (by omega)]
   subst a6
   subst hA
   simp [std, c5, ec6, Int.not_lt.2 ec6]
def S97_1 (p0 : ByteArray) (p1 : Int) : St := { sl := [.str p0, .bad, .bad, .int .i64 p1, .bad, .bad, .bad, .bad, .bad, .bad, .bad, .bad, .bad, .bad, .bad, .bad, .bad, .bad, .bad, .bad, .bad, .bad, .bad], bl := [] }
theorem r_spec_WordOk (A : Alg) (hA : A = std) (s : ByteArray) (hz : (ByteArray.size s : Int) ≤ 4611686018427387904) : Real Try.prog 97 [.str s] (.bool (wordOk s)) := by
 refine real_args (args' := [.str s]) (by rfl) ?_
 have zs := slen_eq hA s
 refine real tyOk Try.func97 (by kernel_rfl) (afun_of rfl ?_)
 refine gs (gr (ra hA 1 (by cbv) (od ?_)))
 refine gs (gs (gr (ra hA 1 (by cbv) (od ?_))))
 refine go_block ?_
 refine go_loopE (fun σ m => ∃ (i : Nat) (n : Int), σ = (S97_1 s n) ∧ (n = (i : Int) ∧ i ≤ ByteArray.size s ∧ wdB s = wdFrom s i (ByteArray.size s - i)) ∧ m = ByteArray.size s - i) _ [] [0, 3] [] (S97_1 s 0) rfl (by cbv) ⟨0, 0, rfl, ?_, rfl⟩ (fun σ m hI => ?_)
 ·
  exact ⟨rfl, Nat.zero_le _, rfl⟩
 obtain ⟨i, n, rfl, ⟨hn, hi, hE⟩, rfl⟩ := hI
 have zs := slen_eq hA s
 refine gs (gs (gr (ra hA 4 (by cbv) (od ?_))))
 refine go_cond rfl (fun c1 => ?_) (fun c1 => ?_)
 ·
  have ec1 : n < (A.slen s) := lss_t hA c1
  refine gk (gs ?_)
  refine go_block ?_
  refine gs (gr (ra hA 2 (by cbv) ?_))
  have zy2 : A.slen s = (ByteArray.size s : Int) := slen_eq hA s
  have d4 : (0 : Int) ≤ n := by omega
  have d0 : n < (ByteArray.size s : Int) := by omega
  obtain ⟨y2, hy2⟩ := nm (byteAt s n : Int)
  refine ops_step rfl rfl (idx_str rfl rfl rfl rfl d4 d0 hy2) ?_
  refine ra hA 2 (by cbv) ?_
  refine ops_split 14 rfl (fun c3 => ?_) (fun c3 => ?_)
  ·
   have ec3 : y2 < 97 := lss_t hA c3
   refine ra hA 5 (by cbv) (od ?_)
   refine go_cond rfl (fun c4 => ?_) (fun c4 => ?_)
   ·
    refine gs (gr (ra hA 1 (by cbv) (od ?_)))
    refine go_ret ⟨_, by cbv, ?_⟩
    show _ = (PV.bool false)
    refine congrArg PV.bool ?_
    try simp only [slen_eq hA] at *
    rw [wordOk, hE, wd_step (by omega)]
    subst hn
    subst hy2
    subst hA
    simp [std, ec1, ec3]
   ·
    exact no_f c4 (show true = true from by rfl)
  ·
   have ec3 : 97 ≤ y2 := lss_f hA c3
   refine ra hA 2 (by cbv) ?_
   have zy5 : A.slen s = (ByteArray.size s : Int) := slen_eq hA s
   have d2 : (0 : Int) ≤ n := by omega
   have d3 : n < (ByteArray.size s : Int) := by omega
   obtain ⟨y5, hy5⟩ := nm (byteAt s n : Int)
   refine ops_stepG rfl rfl rfl rfl (idx_str rfl rfl rfl rfl d2 d3 hy5) ?_
   refine ra hA 2 (by cbv) (od ?_)
   refine go_cond rfl (fun c6 => ?_) (fun c6 => ?_)
   ·
    have ec6 : 122 < y5 := gtr_t hA c6
    refine gs (gr (ra hA 1 (by cbv) (od ?_)))
    refine go_ret ⟨_, by cbv, ?_⟩
    show _ = (PV.bool false)
    refine congrArg PV.bool ?_
    try simp only [slen_eq hA] at *
    rw [wordOk, hE, wd_step (by omega)]
    subst hn
    subst hy5 hy2
    subst hA
    simp [std, ec1, ec3, Int.not_lt.2 ec3, ec6]
   ·
    have ec6 : y5 ≤ 122 := gtr_f hA c6
    refine gk (gr (ra hA 3 (by cbv) (od ?_)))
    refine ⟨(S97_1 s (A.num .add .i64 n 1)), ByteArray.size s - (i + 1), ?_, by cbv, i + 1, (A.num .add .i64 n 1), rfl, ?_, rfl⟩
    ·
     omega
    ·
     refine ⟨by rw [add_i64 hA (by omega) (by omega)]; omega, by omega, ?_⟩
     rw [hE, wd_step (by omega)]
     subst hy5 hy2
     subst hn
     simp [ec1, ec3, Int.not_lt.2 ec3, ec6, Int.not_lt.2 ec6]
 ·
  have ec1 : (A.slen s) ≤ n := lss_f hA c1
  refine go_exit ⟨fun _ => ?_, fun h => absurd rfl h⟩
  refine gs (gr (ra hA 2 (by cbv) ?_))
  obtain ⟨a5, b7, hc8⟩ : ∃ (a5 : Bool), a5 = (inR (A.slen s) 1 8) ∧ Real Try.prog 95 [.int .i64 (A.slen s), .int .i64 1, .int .i64 8] (.bool a5) := ⟨_, rfl, by exact r_spec_l01In A hA (A.slen s) 1 8 ⟩
  refine ops_callV rfl rfl (by cbv) (by cbv) hc8 (.inr rfl) (by cbv) ?_
  refine ra hA 1 (by cbv) (od ?_)
  refine go_ret ⟨_, by cbv, ?_⟩
  show _ = (PV.bool a5)
  refine congrArg PV.bool ?_
  try simp only [slen_eq hA] at *
  rw [wordOk, hE, wd_end (by omega)]
  subst b7
  subst hA
  simp [std, ec1, Int.not_lt.2 ec1]
theorem r_spec_l19Text (A : Alg) (hA : A = std) (s : ByteArray) (hz : (ByteArray.size s : Int) ≤ 4611686018427387904) : Real Try.prog 96 [.str s] (.bool (textOk s)) := by
 refine real_args (args' := [.str s]) (by rfl) ?_
 refine real tyOk Try.func96 (by kernel_rfl) (afun_of rfl ?_)
 refine gs (gr (ra hA 1 (by cbv) (od ?_)))
 refine gs (gr (ra hA 3 (by cbv) ?_))
 refine ops_split 5 rfl (fun c1 => ?_) (fun c1 => ?_)
 ·
  have ec1 : s = (ByteArray.mk #[]) := seql_t hA c1
  refine ra hA 4 (by cbv) (od ?_)
  refine go_ret ⟨_, by cbv, ?_⟩
  show _ = (PV.bool true)
  refine congrArg PV.bool ?_
  try simp only [slen_eq hA] at *
  subst hA
  simp [textOk, std, ec1]
 ·
  have ec1 : s ≠ (ByteArray.mk #[]) := seql_f hA c1
  refine ra hA 1 (by cbv) ?_
  obtain ⟨b3, b9, hc3⟩ : ∃ (b3 : Bool), b3 = (wordOk s) ∧ Real Try.prog 97 [.str s] (.bool b3) := ⟨_, rfl, by exact r_spec_WordOk A hA s (by first | assumption | omega)⟩
  refine ops_callG rfl rfl rfl rfl (by cbv) (by cbv) hc3 (.inr rfl) (by cbv) ?_
  refine ra hA 2 (by cbv) (od ?_)
  refine go_ret ⟨_, by cbv, ?_⟩
  show _ = (PV.bool b3)
  refine congrArg PV.bool ?_
  try simp only [slen_eq hA] at *
  subst b9
  subst hA
  simp [textOk, std, ec1, ec1.symm]
def S98_1 (p0 : RR) (p1 : ByteArray) (p2 : Int) : St := { sl := [.sl 1 p0, .str p1, .bad, .bad, .bad, .int .i64 p2, .bad, .bad, .bad, .bad, .bad, .bad, .bad, .bad, .bad, .bad, .bad, .bad], bl := [] }
theorem r_spec_l19In (A : Alg) (hA : A = std) (xs : List ByteArray) (v : ByteArray) (hx : (List.length xs : Int) ≤ 4611686018427387904) : Real Try.prog 98 [.sl 1 (List.map eString xs), .str v] (.bool (memB v xs)) := by
 obtain ⟨a0, a1⟩ := nm (xs.map eString)
 have a4 := rlen_map hA a1
 refine real_args (args' := [.sl 1 a0, .str v]) (by subst a1; rfl) ?_
 refine real tyOk Try.func98 (by kernel_rfl) (afun_of rfl ?_)
 refine gs (gr (ra hA 1 (by cbv) (od ?_)))
 refine gs (gs (gr (ra hA 1 (by cbv) (od ?_))))
 refine go_block ?_
 refine go_loopE (fun σ m => ∃ (i : Nat) (n : Int), σ = (S98_1 a0 v n) ∧ (n = (i : Int) ∧ i ≤ List.length xs ∧ xs.any (fun x => decide (x = v)) = (xs.drop i).any (fun x => decide (x = v))) ∧ m = List.length xs - i) _ [] [0, 1, 5] [] (S98_1 a0 v 0) rfl (by cbv) ⟨0, 0, rfl, ?_, rfl⟩ (fun σ m hI => ?_)
 ·
  exact ⟨rfl, Nat.zero_le _, rfl⟩
 obtain ⟨i, n, rfl, ⟨hn, hi, hE⟩, rfl⟩ := hI
 refine gs (gs (gr (ra hA 4 (by cbv) (od ?_))))
 refine go_cond rfl (fun c1 => ?_) (fun c1 => ?_)
 ·
  have ec1 : n < (A.rlen a0) := lss_t hA c1
  refine gk (gs ?_)
  refine go_block ?_
  refine gs (gr (ra hA 2 (by cbv) ?_))
  have a8 : (0 : Int) ≤ n := by
   omega
  have a7 : (Int.toNat n) < List.length xs := by
   omega
  obtain ⟨x2, hx2⟩ : ∃ x, (xs)[(Int.toNat n)]? = some x := ⟨_, List.getElem?_eq_getElem a7⟩
  have b8 := List.mem_of_getElem? hx2
  have b0 : a0[(Int.toNat n)]? = some [.str x2] := by
   exact map_at eString a1 hx2
  have a2 := hx2
  rw [hn] at a2
  have a2 : (xs)[i]? = some x2 := a2
  refine ops_step rfl rfl (idx_sl rfl rfl rfl rfl rfl a8 rfl b0) ?_
  refine ra hA 3 (by cbv) (od ?_)
  refine go_cond rfl (fun c3 => ?_) (fun c3 => ?_)
  ·
   have ec3 : x2 = v := seql_t hA c3
   refine gs (gr (ra hA 1 (by cbv) (od ?_)))
   refine go_ret ⟨_, by cbv, ?_⟩
   show _ = (PV.bool true)
   refine congrArg PV.bool ?_
   unfold memB
   rw [hE, any_at a2]
   simp [ec1, ec3]
  ·
   have ec3 : x2 ≠ v := seql_f hA c3
   refine gk (gr (ra hA 3 (by cbv) (od ?_)))
   refine ⟨(S98_1 a0 v (A.num .add .i64 n 1)), List.length xs - (i + 1), ?_, by cbv, i + 1, (A.num .add .i64 n 1), rfl, ?_, rfl⟩
   ·
    omega
   ·
    refine ⟨by rw [add_i64 hA (by omega) (by omega)]; omega, by omega, ?_⟩
    rw [hE, any_at a2]
    simp [ec1, ec3, ec3.symm]
 ·
  have ec1 : (A.rlen a0) ≤ n := lss_f hA c1
  refine go_exit ⟨fun _ => ?_, fun h => absurd rfl h⟩
  refine gs (gr (ra hA 1 (by cbv) (od ?_)))
  refine go_ret ⟨_, by cbv, ?_⟩
  show _ = (PV.bool false)
  refine congrArg PV.bool ?_
  unfold memB
  rw [hE, List.drop_of_length_le (by omega)]; rfl
def S110_1 (p0 : RR) (p1 : ByteArray) (p2 : Int) (p3 : Int) : St := { sl := [.sl 1 p0, .str p1, .bad, .bad, .bad, .bad, .bad, .int .i64 p2, .int .i64 p3, .bad, .bad, .bad, .bad, .bad, .bad, .bad, .bad, .bad, .bad], bl := [] }
theorem r_slices_Index_string_string_ (A : Alg) (hA : A = std) (xs : List ByteArray) (v : ByteArray) (hx : (List.length xs : Int) ≤ 4611686018427387904)  : Real Try.prog 110 [.sl 1 (List.map eString xs), .str v] (.int .i64 (ixF (fun x => decide (x = v)) xs 0)) := by
 obtain ⟨a0, a1⟩ := nm (xs.map eString)
 have a4 := rlen_map hA a1
 refine real_args (args' := [.sl 1 a0, .str v]) (by subst a1; rfl) ?_
 refine real tyOk Try.func110 (by kernel_rfl) (afun_of rfl ?_)
 refine gs (gr (ra hA 1 (by cbv) (od ?_)))
 refine gs (gs (gr (ra hA 3 (by cbv) (od ?_))))
 refine go_block ?_
 refine go_loopE (fun σ m => ∃ (i : Nat) (n : Int), σ = (S110_1 a0 v (A.rlen a0) n) ∧ (n = (i : Int) ∧ i ≤ List.length xs ∧ ixF (fun x => decide (x = v)) xs 0 = ixF (fun x => decide (x = v)) (xs.drop i) i) ∧ m = List.length xs - i) _ [] [0, 1, 7, 8] [] (S110_1 a0 v (A.rlen a0) 0) rfl (by cbv) ⟨0, 0, rfl, ?_, rfl⟩ (fun σ m hI => ?_)
 ·
  exact ⟨rfl, Nat.zero_le _, rfl⟩
 obtain ⟨i, n, rfl, ⟨hn, hi, hE⟩, rfl⟩ := hI
 refine gs (gr (ra hA 1 (by cbv) (od ?_)))
 refine gs ?_
 refine go_cond rfl (fun c1 => ?_) (fun c1 => ?_)
 ·
  have ec1 : n < (A.rlen a0) := lss_t hA c1
  refine gk (gs ?_)
  refine go_block ?_
  refine gs (gr (ra hA 2 (by cbv) (od ?_)))
  refine gs (gr (ra hA 3 (by cbv) ?_))
  have a8 : (0 : Int) ≤ n := by
   omega
  have a7 : (Int.toNat n) < List.length xs := by
   omega
  obtain ⟨x2, hx2⟩ : ∃ x, (xs)[(Int.toNat n)]? = some x := ⟨_, List.getElem?_eq_getElem a7⟩
  have b8 := List.mem_of_getElem? hx2
  have b0 : a0[(Int.toNat n)]? = some [.str x2] := by
   exact map_at eString a1 hx2
  have a2 := hx2
  rw [hn] at a2
  have a2 : (xs)[i]? = some x2 := a2
  refine ops_step rfl rfl (idx_sl rfl rfl rfl rfl rfl a8 rfl b0) ?_
  refine ra hA 2 (by cbv) (od ?_)
  refine go_cond rfl (fun c3 => ?_) (fun c3 => ?_)
  ·
   have ec3 : v = x2 := seql_t hA c3
   refine gs (gr (ra hA 2 (by cbv) (od ?_)))
   refine go_ret ⟨_, by cbv, ?_⟩
   show _ = (PV.int .i64 n)
   refine congrArg (PV.int .i64) ?_
   rw [hE, ix_at a2]
   simp [ec1, ec3, hn]
  ·
   have ec3 : v ≠ x2 := seql_f hA c3
   refine gk (gr (ra hA 2 (by cbv) (od ?_)))
   refine ⟨(S110_1 a0 v (A.rlen a0) (A.num .add .i64 n 1)), List.length xs - (i + 1), ?_, by cbv, i + 1, (A.num .add .i64 n 1), rfl, ?_, rfl⟩
   ·
    omega
   ·
    refine ⟨by rw [add_i64 hA (by omega) (by omega)]; omega, by omega, ?_⟩
    rw [hE, ix_at a2]
    simp [ec1, ec3, ec3.symm]
 ·
  have ec1 : (A.rlen a0) ≤ n := lss_f hA c1
  refine go_exit ⟨fun _ => ?_, fun h => absurd rfl h⟩
  refine gs (gr (ra hA 1 (by cbv) (od ?_)))
  refine go_ret ⟨_, by cbv, ?_⟩
  show _ = (PV.int .i64 (-1))
  refine congrArg (PV.int .i64) ?_
  rw [hE]; exact ix_end (by omega)
theorem r_slices_Contains_string_string_ (A : Alg) (hA : A = std) (xs : List ByteArray) (v : ByteArray) (hx : (List.length xs : Int) ≤ 4611686018427387904) : Real Try.prog 73 [.sl 1 (List.map eString xs), .str v] (.bool (memB v xs)) := by
 obtain ⟨a0, a1⟩ := nm (xs.map eString)
 have a4 := rlen_map hA a1
 refine real_args (args' := [.sl 1 a0, .str v]) (by subst a1; rfl) ?_
 refine real tyOk Try.func73 (by kernel_rfl) (afun_of rfl ?_)
 refine gs (gr (ra hA 1 (by cbv) (od ?_)))
 refine gs (gr (ra hA 2 (by cbv) ?_))
 obtain ⟨a3, b2, hc2⟩ : ∃ (a3 : Int), a3 = (ixF (fun x => decide (x = v)) xs 0) ∧ Real Try.prog 110 [.sl 1 a0, .str v] (.int .i64 a3) := ⟨_, rfl, by subst a1; exact r_slices_Index_string_string_ A hA xs v hx⟩
 refine ops_callV rfl rfl (by cbv) (by cbv) hc2 (.inr rfl) (by cbv) ?_
 refine ra hA 2 (by cbv) (od ?_)
 refine go_ret ⟨_, by cbv, ?_⟩
 show _ = (PV.bool (A.cmp .geq a3 0))
 refine congrArg PV.bool ?_
 rw [b2]; exact (ix_any' hA _).symm
theorem r_impl_BringOk_1 (A : Alg) (hA : A = std) (s : ByteArray)  : Real Try.prog 104 [.str s] (.bool (lineB s)) := by
 refine real_args (args' := [.str s]) (by rfl) ?_
 refine real tyOk Try.func104 (by kernel_rfl) (afun_of rfl ?_)
 refine gs (gr (ra hA 1 (by cbv) (od ?_)))
 refine gs (gr (ra hA 4 (by cbv) (od ?_)))
 refine go_ret ⟨_, by cbv, ?_⟩
 show _ = (PV.bool (A.cmp .gtr (A.slen s) 80))
 refine congrArg PV.bool ?_
 simp only [slen_eq hA]
 subst hA
 rfl
def S132_1 (p0 : RR) (p1 : Int) (p2 : Int) : St := { sl := [.sl 1 p0, .fn 104 [], .bad, .bad, .bad, .bad, .bad, .int .i64 p1, .int .i64 p2, .bad, .bad, .bad, .bad, .bad, .bad, .bad, .bad, .bad, .bad], bl := [] }
theorem r_IndexFunc_line (A : Alg) (hA : A = std) (xs : List ByteArray) (hx : (List.length xs : Int) ≤ 4611686018427387904)  : Real Try.prog 132 [.sl 1 (List.map eString xs), .fn 104 []] (.int .i64 (ixF lineB xs 0)) := by
 obtain ⟨a0, a1⟩ := nm (xs.map eString)
 have a4 := rlen_map hA a1
 refine real_args (args' := [.sl 1 a0, .fn 104 []]) (by subst a1; rfl) ?_
 refine real tyOk Try.func132 (by kernel_rfl) (afun_of rfl ?_)
 refine gs (gr (ra hA 1 (by cbv) (od ?_)))
 refine gs (gs (gr (ra hA 3 (by cbv) (od ?_))))
 refine go_block ?_
 refine go_loopE (fun σ m => ∃ (i : Nat) (n : Int), σ = (S132_1 a0 (A.rlen a0) n) ∧ (n = (i : Int) ∧ i ≤ List.length xs ∧ ixF lineB xs 0 = ixF lineB (xs.drop i) i) ∧ m = List.length xs - i) _ [] [0, 1, 7, 8] [] (S132_1 a0 (A.rlen a0) 0) rfl (by cbv) ⟨0, 0, rfl, ?_, rfl⟩ (fun σ m hI => ?_)
 ·
  exact ⟨rfl, Nat.zero_le _, rfl⟩
 obtain ⟨i, n, rfl, ⟨hn, hi, hE⟩, rfl⟩ := hI
 refine gs (gr (ra hA 1 (by cbv) (od ?_)))
 refine gs ?_
 refine go_cond rfl (fun c1 => ?_) (fun c1 => ?_)
 ·
  have ec1 : n < (A.rlen a0) := lss_t hA c1
  refine gk (gs ?_)
  refine go_block ?_
  refine gs (gr (ra hA 2 (by cbv) (od ?_)))
  refine gs (gr (ra hA 3 (by cbv) ?_))
  have a8 : (0 : Int) ≤ n := by
   omega
  have a7 : (Int.toNat n) < List.length xs := by
   omega
  obtain ⟨x2, hx2⟩ : ∃ x, (xs)[(Int.toNat n)]? = some x := ⟨_, List.getElem?_eq_getElem a7⟩
  have b8 := List.mem_of_getElem? hx2
  have b0 : a0[(Int.toNat n)]? = some [.str x2] := by
   exact map_at eString a1 hx2
  have a2 := hx2
  rw [hn] at a2
  have a2 : (xs)[i]? = some x2 := a2
  refine ops_step rfl rfl (idx_sl rfl rfl rfl rfl rfl a8 rfl b0) ?_
  refine ra hA 1 (by cbv) ?_
  obtain ⟨b4, b5, hc4⟩ : ∃ (b4 : Bool), b4 = (lineB x2) ∧ Real Try.prog 104 [.str x2] (.bool b4) := ⟨_, rfl, by exact r_impl_BringOk_1 A hA x2 ⟩
  refine ops_callV rfl rfl (by cbv) (by cbv) hc4 (.inr rfl) (by cbv) ?_
  refine od ?_
  refine go_cond rfl (fun c5 => ?_) (fun c5 => ?_)
  ·
   refine gs (gr (ra hA 2 (by cbv) (od ?_)))
   refine go_ret ⟨_, by cbv, ?_⟩
   show _ = (PV.int .i64 n)
   refine congrArg (PV.int .i64) ?_
   rw [hE, ix_at a2]
   subst b5
   simp [ec1, c5, hn]
  ·
   refine gk (gr (ra hA 2 (by cbv) (od ?_)))
   refine ⟨(S132_1 a0 (A.rlen a0) (A.num .add .i64 n 1)), List.length xs - (i + 1), ?_, by cbv, i + 1, (A.num .add .i64 n 1), rfl, ?_, rfl⟩
   ·
    omega
   ·
    refine ⟨by rw [add_i64 hA (by omega) (by omega)]; omega, by omega, ?_⟩
    rw [hE, ix_at a2]
    subst b5
    simp [ec1, c5]
 ·
  have ec1 : (A.rlen a0) ≤ n := lss_f hA c1
  refine go_exit ⟨fun _ => ?_, fun h => absurd rfl h⟩
  refine gs (gr (ra hA 1 (by cbv) (od ?_)))
  refine go_ret ⟨_, by cbv, ?_⟩
  show _ = (PV.int .i64 (-1))
  refine congrArg (PV.int .i64) ?_
  rw [hE]; exact ix_end (by omega)
theorem r_ContainsFunc_line (A : Alg) (hA : A = std) (xs : List ByteArray) (hx : (List.length xs : Int) ≤ 4611686018427387904) : Real Try.prog 103 [.sl 1 (List.map eString xs), .fn 104 []] (.bool (List.any xs lineB)) := by
 obtain ⟨a0, a1⟩ := nm (xs.map eString)
 have a4 := rlen_map hA a1
 refine real_args (args' := [.sl 1 a0, .fn 104 []]) (by subst a1; rfl) ?_
 refine real tyOk Try.func103 (by kernel_rfl) (afun_of rfl ?_)
 refine gs (gr (ra hA 1 (by cbv) (od ?_)))
 refine gs (gr (ra hA 2 (by cbv) ?_))
 obtain ⟨a3, b2, hc2⟩ : ∃ (a3 : Int), a3 = (ixF lineB xs 0) ∧ Real Try.prog 132 [.sl 1 a0, .fn 104 []] (.int .i64 a3) := ⟨_, rfl, by subst a1; exact r_IndexFunc_line A hA xs hx⟩
 refine ops_callV rfl rfl (by cbv) (by cbv) hc2 (.inr rfl) (by cbv) ?_
 refine ra hA 2 (by cbv) (od ?_)
 refine go_ret ⟨_, by cbv, ?_⟩
 show _ = (PV.bool (A.cmp .geq a3 0))
 refine congrArg PV.bool ?_
 rw [b2]; exact (ix_any' hA _).symm
end Go.Av
