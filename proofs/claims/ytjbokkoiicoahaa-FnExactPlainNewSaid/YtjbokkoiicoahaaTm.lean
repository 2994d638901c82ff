/- What marks are. -/
import Derived.Test.YtjbokkoiicoahaaTy
namespace Go.Av
open Go Go.Proofs
set_option maxRecDepth 100000
set_option maxHeartbeats 4000000
set_option linter.unusedVariables false
set_option linter.unusedSimpArgs false
def dig (k : Int) : ByteArray := strOfNums [IntKind.u8.wrap (IntKind.i64.wrap (48 + k.tmod 10))]
def mtGo (k : Int) (out : ByteArray) : ByteArray := if h : 0 < k then mtGo (k.tdiv 10) (dig k ++ out) else out
 termination_by k.toNat
 decreasing_by rw [Int.tdiv_eq_ediv_of_nonneg (by omega)]; omega
def mt (k : Int) : ByteArray := if k ≤ 0 then ⟨#[109, 48]⟩ else ⟨#[109]⟩ ++ mtGo k ⟨#[]⟩
def mb (k : Int) : Bool := k.tmod 3 == 0
def cnIntS (xs : List Int) : Int := xs.length
def mkIntS : Int → List Int → List Int
  | _, [] => []
  | k, _ :: xs => (k) :: mkIntS (k + 1) xs
def ceInt (_ : Int) : Int := 1
def meInt (k : Int) (_ : Int) : Int := (k)
theorem cnIntS_nn (xs : List Int) : 0 ≤ cnIntS xs := by simp [cnIntS]
theorem cnIntS_les (xs : List Int) : cnIntS xs ≤ 20 * ((zsIntS xs).sum : Int) := by simp only [cnIntS, zsIntS, List.sum_cons]; omega
theorem cnIntS_ge (xs : List Int) : (List.length xs : Int) ≤ cnIntS xs := by simp [cnIntS]
theorem cnIntS_app (xs ys : List Int) : cnIntS (xs ++ ys) = cnIntS xs + cnIntS ys := by simp [cnIntS]
theorem cnIntS_one (x : Int) : cnIntS [x] = ceInt x := by simp [cnIntS, ceInt]
theorem mkIntS_len : ∀ (xs : List Int) (k : Int), (mkIntS k xs).length = xs.length
  | [], _ => rfl
  | x :: xs, k => by simp [mkIntS, mkIntS_len xs]
theorem mkIntS_app : ∀ (xs ys : List Int) (k : Int), mkIntS k (xs ++ ys) = mkIntS k xs ++ mkIntS (k + cnIntS xs) ys
  | [], ys, k => by simp [mkIntS, cnIntS]
  | x :: xs, ys, k => by
    simp only [List.cons_append, mkIntS, mkIntS_app xs ys]
    congr 3
    have := cnIntS_one x; have h2 := cnIntS_app [x] xs
    simp only [List.singleton_append] at h2
    rw [h2, this]; unfold ceInt; omega
theorem mkIntS_at {xs : List Int} {i : Nat} {x : Int} (k : Int) (h : xs[i]? = some x) : mkIntS k (xs.take (i + 1)) = mkIntS k (xs.take i) ++ [meInt (k + cnIntS (xs.take i)) x] := by
 rw [List.take_add_one, h, Option.toList_some, mkIntS_app]; rfl
theorem mkIntS_get : ∀ {xs : List Int} {i : Nat} {x : Int} (k : Int) (h : xs[i]? = some x), (mkIntS k xs)[i]? = some (meInt (k + cnIntS (xs.take i)) x)
  | y :: xs, 0, x, k, h => by
    simp only [List.getElem?_cons_zero, Option.some.injEq] at h; subst h; simp [mkIntS, cnIntS, meInt]
  | y :: xs, i + 1, x, k, h => by
    have := mkIntS_get (k + ceInt y) (xs := xs) (i := i) (x := x) (by simpa using h)
    simp only [mkIntS, List.getElem?_cons_succ, List.take_succ_cons]
    have e := cnIntS_app [y] (xs.take i); have e2 := cnIntS_one y
    simp only [List.singleton_append] at e
    rw [e, e2, ← Int.add_assoc]; exact this
theorem cnIntS_at {xs : List Int} {i : Nat} {x : Int} (h : xs[i]? = some x) : cnIntS (xs.take (i + 1)) = cnIntS (xs.take i) + ceInt x := by
 rw [List.take_add_one, h, Option.toList_some, cnIntS_app, cnIntS_one]
theorem cnIntS_le (xs : List Int) (i : Nat) : cnIntS (xs.take i) ≤ cnIntS xs := by
 have h := cnIntS_app (xs.take i) (xs.drop i)
 rw [List.take_append_drop] at h
 have := cnIntS_nn (xs.drop i); omega
def cnBoolS (xs : List Bool) : Int := xs.length
def mkBoolS : Int → List Bool → List Bool
  | _, [] => []
  | k, _ :: xs => mb (k) :: mkBoolS (k + 1) xs
def ceBool (_ : Bool) : Int := 1
def meBool (k : Int) (_ : Bool) : Bool := mb (k)
theorem cnBoolS_nn (xs : List Bool) : 0 ≤ cnBoolS xs := by simp [cnBoolS]
theorem cnBoolS_les (xs : List Bool) : cnBoolS xs ≤ 20 * ((zsBoolS xs).sum : Int) := by simp only [cnBoolS, zsBoolS, List.sum_cons]; omega
theorem cnBoolS_ge (xs : List Bool) : (List.length xs : Int) ≤ cnBoolS xs := by simp [cnBoolS]
theorem cnBoolS_app (xs ys : List Bool) : cnBoolS (xs ++ ys) = cnBoolS xs + cnBoolS ys := by simp [cnBoolS]
theorem cnBoolS_one (x : Bool) : cnBoolS [x] = ceBool x := by simp [cnBoolS, ceBool]
theorem mkBoolS_len : ∀ (xs : List Bool) (k : Int), (mkBoolS k xs).length = xs.length
  | [], _ => rfl
  | x :: xs, k => by simp [mkBoolS, mkBoolS_len xs]
theorem mkBoolS_app : ∀ (xs ys : List Bool) (k : Int), mkBoolS k (xs ++ ys) = mkBoolS k xs ++ mkBoolS (k + cnBoolS xs) ys
  | [], ys, k => by simp [mkBoolS, cnBoolS]
  | x :: xs, ys, k => by
    simp only [List.cons_append, mkBoolS, mkBoolS_app xs ys]
    congr 3
    have := cnBoolS_one x; have h2 := cnBoolS_app [x] xs
    simp only [List.singleton_append] at h2
    rw [h2, this]; unfold ceBool; omega
theorem mkBoolS_at {xs : List Bool} {i : Nat} {x : Bool} (k : Int) (h : xs[i]? = some x) : mkBoolS k (xs.take (i + 1)) = mkBoolS k (xs.take i) ++ [meBool (k + cnBoolS (xs.take i)) x] := by
 rw [List.take_add_one, h, Option.toList_some, mkBoolS_app]; rfl
theorem mkBoolS_get : ∀ {xs : List Bool} {i : Nat} {x : Bool} (k : Int) (h : xs[i]? = some x), (mkBoolS k xs)[i]? = some (meBool (k + cnBoolS (xs.take i)) x)
  | y :: xs, 0, x, k, h => by
    simp only [List.getElem?_cons_zero, Option.some.injEq] at h; subst h; simp [mkBoolS, cnBoolS, meBool]
  | y :: xs, i + 1, x, k, h => by
    have := mkBoolS_get (k + ceBool y) (xs := xs) (i := i) (x := x) (by simpa using h)
    simp only [mkBoolS, List.getElem?_cons_succ, List.take_succ_cons]
    have e := cnBoolS_app [y] (xs.take i); have e2 := cnBoolS_one y
    simp only [List.singleton_append] at e
    rw [e, e2, ← Int.add_assoc]; exact this
theorem cnBoolS_at {xs : List Bool} {i : Nat} {x : Bool} (h : xs[i]? = some x) : cnBoolS (xs.take (i + 1)) = cnBoolS (xs.take i) + ceBool x := by
 rw [List.take_add_one, h, Option.toList_some, cnBoolS_app, cnBoolS_one]
theorem cnBoolS_le (xs : List Bool) (i : Nat) : cnBoolS (xs.take i) ≤ cnBoolS xs := by
 have h := cnBoolS_app (xs.take i) (xs.drop i)
 rw [List.take_append_drop] at h
 have := cnBoolS_nn (xs.drop i); omega
def cnStringS (xs : List ByteArray) : Int := xs.length
def mkStringS : Int → List ByteArray → List ByteArray
  | _, [] => []
  | k, _ :: xs => mt (k) :: mkStringS (k + 1) xs
def ceString (_ : ByteArray) : Int := 1
def meString (k : Int) (_ : ByteArray) : ByteArray := mt (k)
theorem cnStringS_nn (xs : List ByteArray) : 0 ≤ cnStringS xs := by simp [cnStringS]
theorem cnStringS_les (xs : List ByteArray) : cnStringS xs ≤ 20 * ((zsStringS xs).sum : Int) := by simp only [cnStringS, zsStringS, List.sum_cons]; omega
theorem cnStringS_ge (xs : List ByteArray) : (List.length xs : Int) ≤ cnStringS xs := by simp [cnStringS]
theorem cnStringS_app (xs ys : List ByteArray) : cnStringS (xs ++ ys) = cnStringS xs + cnStringS ys := by simp [cnStringS]
theorem cnStringS_one (x : ByteArray) : cnStringS [x] = ceString x := by simp [cnStringS, ceString]
theorem mkStringS_len : ∀ (xs : List ByteArray) (k : Int), (mkStringS k xs).length = xs.length
  | [], _ => rfl
  | x :: xs, k => by simp [mkStringS, mkStringS_len xs]
theorem mkStringS_app : ∀ (xs ys : List ByteArray) (k : Int), mkStringS k (xs ++ ys) = mkStringS k xs ++ mkStringS (k + cnStringS xs) ys
  | [], ys, k => by simp [mkStringS, cnStringS]
  | x :: xs, ys, k => by
    simp only [List.cons_append, mkStringS, mkStringS_app xs ys]
    congr 3
    have := cnStringS_one x; have h2 := cnStringS_app [x] xs
    simp only [List.singleton_append] at h2
    rw [h2, this]; unfold ceString; omega
theorem mkStringS_at {xs : List ByteArray} {i : Nat} {x : ByteArray} (k : Int) (h : xs[i]? = some x) : mkStringS k (xs.take (i + 1)) = mkStringS k (xs.take i) ++ [meString (k + cnStringS (xs.take i)) x] := by
 rw [List.take_add_one, h, Option.toList_some, mkStringS_app]; rfl
theorem mkStringS_get : ∀ {xs : List ByteArray} {i : Nat} {x : ByteArray} (k : Int) (h : xs[i]? = some x), (mkStringS k xs)[i]? = some (meString (k + cnStringS (xs.take i)) x)
  | y :: xs, 0, x, k, h => by
    simp only [List.getElem?_cons_zero, Option.some.injEq] at h; subst h; simp [mkStringS, cnStringS, meString]
  | y :: xs, i + 1, x, k, h => by
    have := mkStringS_get (k + ceString y) (xs := xs) (i := i) (x := x) (by simpa using h)
    simp only [mkStringS, List.getElem?_cons_succ, List.take_succ_cons]
    have e := cnStringS_app [y] (xs.take i); have e2 := cnStringS_one y
    simp only [List.singleton_append] at e
    rw [e, e2, ← Int.add_assoc]; exact this
theorem cnStringS_at {xs : List ByteArray} {i : Nat} {x : ByteArray} (h : xs[i]? = some x) : cnStringS (xs.take (i + 1)) = cnStringS (xs.take i) + ceString x := by
 rw [List.take_add_one, h, Option.toList_some, cnStringS_app, cnStringS_one]
theorem cnStringS_le (xs : List ByteArray) (i : Nat) : cnStringS (xs.take i) ≤ cnStringS xs := by
 have h := cnStringS_app (xs.take i) (xs.drop i)
 rw [List.take_append_drop] at h
 have := cnStringS_nn (xs.drop i); omega
def ceMail (x : GMail) : Int := 1 + 1 + 1
def meMail (k : Int) (x : GMail) : GMail := ⟨(k), (k + 1), mt (k + 1 + 1)⟩
def cnMailS : List GMail → Int
  | [] => 0
  | x :: xs => ceMail x + cnMailS xs
def mkMailS : Int → List GMail → List GMail
  | _, [] => []
  | k, x :: xs => meMail k x :: mkMailS (k + ceMail x) xs
def cnMail (x : GMail) : Int := 0
def mkMail (k : Int) (x : GMail) : GMail := ⟨x.Uid, x.Flags, x.Text⟩
theorem ceMail_nn (x : GMail) : 0 ≤ ceMail x := by
 unfold ceMail
 omega
theorem ceMail_les (x : GMail) : ceMail x ≤ 20 * (1 + ((zsMail x).sum : Int)) := by
 simp only [ceMail, zsMail, List.sum_append, List.sum_cons, List.sum_nil]
 omega
theorem cnMail_les (x : GMail) : cnMail x ≤ 20 * ((zsMail x).sum : Int) := by
 simp only [cnMail, zsMail, List.sum_append, List.sum_cons, List.sum_nil]
 omega
theorem ceMail_ge (x : GMail) : 1 ≤ ceMail x := by
 unfold ceMail
 omega
theorem cnMailS_nn : ∀ xs : List GMail, 0 ≤ cnMailS xs
  | [] => by simp [cnMailS]
  | x :: xs => by have h1 := ceMail_nn x; have h2 := cnMailS_nn xs; simp only [cnMailS]; omega
theorem cnMailS_les : ∀ xs : List GMail, cnMailS xs ≤ 20 * ((zsMailS xs).sum : Int)
  | [] => by simp [cnMailS, zsMailS]
  | x :: xs => by
    have h1 := ceMail_les x; have h2 := cnMailS_les xs
    simp only [cnMailS, zsMailS, List.length_cons, List.flatMap_cons, List.sum_cons, List.sum_append] at *
    omega
theorem cnMailS_ge : ∀ xs : List GMail, (List.length xs : Int) ≤ cnMailS xs
  | [] => by simp [cnMailS]
  | x :: xs => by have h1 := ceMail_ge x; have h2 := cnMailS_ge xs; simp only [cnMailS, List.length_cons]; omega
theorem cnMailS_app : ∀ (xs ys : List GMail), cnMailS (xs ++ ys) = cnMailS xs + cnMailS ys
  | [], ys => by simp [cnMailS]
  | x :: xs, ys => by simp only [List.cons_append, cnMailS, cnMailS_app xs ys]; omega
theorem cnMailS_one (x : GMail) : cnMailS [x] = ceMail x := by simp [cnMailS, ceMail]
theorem mkMailS_len : ∀ (xs : List GMail) (k : Int), (mkMailS k xs).length = xs.length
  | [], _ => rfl
  | x :: xs, k => by simp [mkMailS, mkMailS_len xs]
theorem mkMailS_app : ∀ (xs ys : List GMail) (k : Int), mkMailS k (xs ++ ys) = mkMailS k xs ++ mkMailS (k + cnMailS xs) ys
  | [], ys, k => by simp [mkMailS, cnMailS]
  | x :: xs, ys, k => by
    simp only [List.cons_append, mkMailS, mkMailS_app xs ys, cnMailS]
    congr 3
    omega
theorem mkMailS_at {xs : List GMail} {i : Nat} {x : GMail} (k : Int) (h : xs[i]? = some x) : mkMailS k (xs.take (i + 1)) = mkMailS k (xs.take i) ++ [meMail (k + cnMailS (xs.take i)) x] := by
 rw [List.take_add_one, h, Option.toList_some, mkMailS_app]; rfl
theorem mkMailS_get : ∀ {xs : List GMail} {i : Nat} {x : GMail} (k : Int) (h : xs[i]? = some x), (mkMailS k xs)[i]? = some (meMail (k + cnMailS (xs.take i)) x)
  | y :: xs, 0, x, k, h => by
    simp only [List.getElem?_cons_zero, Option.some.injEq] at h; subst h; simp [mkMailS, cnMailS, meMail]
  | y :: xs, i + 1, x, k, h => by
    have := mkMailS_get (k + ceMail y) (xs := xs) (i := i) (x := x) (by simpa using h)
    simp only [mkMailS, List.getElem?_cons_succ, List.take_succ_cons]
    have e := cnMailS_app [y] (xs.take i); have e2 := cnMailS_one y
    simp only [List.singleton_append] at e
    rw [e, e2, ← Int.add_assoc]; exact this
theorem cnMailS_at {xs : List GMail} {i : Nat} {x : GMail} (h : xs[i]? = some x) : cnMailS (xs.take (i + 1)) = cnMailS (xs.take i) + ceMail x := by
 rw [List.take_add_one, h, Option.toList_some, cnMailS_app, cnMailS_one]
theorem cnMailS_le (xs : List GMail) (i : Nat) : cnMailS (xs.take i) ≤ cnMailS xs := by
 have h := cnMailS_app (xs.take i) (xs.drop i)
 rw [List.take_append_drop] at h
 have := cnMailS_nn (xs.drop i); omega
def ceBox (x : GBox) : Int := 1 + 1 + 1 + 1 + cnMailS x.Mails
def meBox (k : Int) (x : GBox) : GBox := ⟨(k), mt (k + 1), mt (k + 1 + 1), (k + 1 + 1 + 1), mkMailS (k + 1 + 1 + 1 + 1) x.Mails⟩
def cnBoxS : List GBox → Int
  | [] => 0
  | x :: xs => ceBox x + cnBoxS xs
def mkBoxS : Int → List GBox → List GBox
  | _, [] => []
  | k, x :: xs => meBox k x :: mkBoxS (k + ceBox x) xs
def cnBox (x : GBox) : Int := cnMailS x.Mails
def mkBox (k : Int) (x : GBox) : GBox := ⟨x.Valid, x.User, x.Name, x.Next, mkMailS (k) x.Mails⟩
theorem ceBox_nn (x : GBox) : 0 ≤ ceBox x := by
 unfold ceBox
 have h4 := cnMailS_nn x.Mails
 omega
theorem ceBox_les (x : GBox) : ceBox x ≤ 20 * (1 + ((zsBox x).sum : Int)) := by
 have h4 := cnMailS_les x.Mails
 simp only [ceBox, zsBox, List.sum_append, List.sum_cons, List.sum_nil]
 omega
theorem cnBox_les (x : GBox) : cnBox x ≤ 20 * ((zsBox x).sum : Int) := by
 have h4 := cnMailS_les x.Mails
 simp only [cnBox, zsBox, List.sum_append, List.sum_cons, List.sum_nil]
 omega
theorem ceBox_ge (x : GBox) : 1 ≤ ceBox x := by
 unfold ceBox
 have h4 := cnMailS_nn x.Mails
 omega
theorem cnBoxS_nn : ∀ xs : List GBox, 0 ≤ cnBoxS xs
  | [] => by simp [cnBoxS]
  | x :: xs => by have h1 := ceBox_nn x; have h2 := cnBoxS_nn xs; simp only [cnBoxS]; omega
theorem cnBoxS_les : ∀ xs : List GBox, cnBoxS xs ≤ 20 * ((zsBoxS xs).sum : Int)
  | [] => by simp [cnBoxS, zsBoxS]
  | x :: xs => by
    have h1 := ceBox_les x; have h2 := cnBoxS_les xs
    simp only [cnBoxS, zsBoxS, List.length_cons, List.flatMap_cons, List.sum_cons, List.sum_append] at *
    omega
theorem cnBoxS_ge : ∀ xs : List GBox, (List.length xs : Int) ≤ cnBoxS xs
  | [] => by simp [cnBoxS]
  | x :: xs => by have h1 := ceBox_ge x; have h2 := cnBoxS_ge xs; simp only [cnBoxS, List.length_cons]; omega
theorem cnBoxS_app : ∀ (xs ys : List GBox), cnBoxS (xs ++ ys) = cnBoxS xs + cnBoxS ys
  | [], ys => by simp [cnBoxS]
  | x :: xs, ys => by simp only [List.cons_append, cnBoxS, cnBoxS_app xs ys]; omega
theorem cnBoxS_one (x : GBox) : cnBoxS [x] = ceBox x := by simp [cnBoxS, ceBox]
theorem mkBoxS_len : ∀ (xs : List GBox) (k : Int), (mkBoxS k xs).length = xs.length
  | [], _ => rfl
  | x :: xs, k => by simp [mkBoxS, mkBoxS_len xs]
theorem mkBoxS_app : ∀ (xs ys : List GBox) (k : Int), mkBoxS k (xs ++ ys) = mkBoxS k xs ++ mkBoxS (k + cnBoxS xs) ys
  | [], ys, k => by simp [mkBoxS, cnBoxS]
  | x :: xs, ys, k => by
    simp only [List.cons_append, mkBoxS, mkBoxS_app xs ys, cnBoxS]
    congr 3
    omega
theorem mkBoxS_at {xs : List GBox} {i : Nat} {x : GBox} (k : Int) (h : xs[i]? = some x) : mkBoxS k (xs.take (i + 1)) = mkBoxS k (xs.take i) ++ [meBox (k + cnBoxS (xs.take i)) x] := by
 rw [List.take_add_one, h, Option.toList_some, mkBoxS_app]; rfl
theorem mkBoxS_get : ∀ {xs : List GBox} {i : Nat} {x : GBox} (k : Int) (h : xs[i]? = some x), (mkBoxS k xs)[i]? = some (meBox (k + cnBoxS (xs.take i)) x)
  | y :: xs, 0, x, k, h => by
    simp only [List.getElem?_cons_zero, Option.some.injEq] at h; subst h; simp [mkBoxS, cnBoxS, meBox]
  | y :: xs, i + 1, x, k, h => by
    have := mkBoxS_get (k + ceBox y) (xs := xs) (i := i) (x := x) (by simpa using h)
    simp only [mkBoxS, List.getElem?_cons_succ, List.take_succ_cons]
    have e := cnBoxS_app [y] (xs.take i); have e2 := cnBoxS_one y
    simp only [List.singleton_append] at e
    rw [e, e2, ← Int.add_assoc]; exact this
theorem cnBoxS_at {xs : List GBox} {i : Nat} {x : GBox} (h : xs[i]? = some x) : cnBoxS (xs.take (i + 1)) = cnBoxS (xs.take i) + ceBox x := by
 rw [List.take_add_one, h, Option.toList_some, cnBoxS_app, cnBoxS_one]
theorem cnBoxS_le (xs : List GBox) (i : Nat) : cnBoxS (xs.take i) ≤ cnBoxS xs := by
 have h := cnBoxS_app (xs.take i) (xs.drop i)
 rw [List.take_append_drop] at h
 have := cnBoxS_nn (xs.drop i); omega
def ceBring (x : GBring) : Int := 1 + 1 + cnStringS x.To + cnStringS x.Data
def meBring (k : Int) (x : GBring) : GBring := ⟨(k), mt (k + 1), mkStringS (k + 1 + 1) x.To, mkStringS (k + 1 + 1 + cnStringS x.To) x.Data⟩
def cnBringS : List GBring → Int
  | [] => 0
  | x :: xs => ceBring x + cnBringS xs
def mkBringS : Int → List GBring → List GBring
  | _, [] => []
  | k, x :: xs => meBring k x :: mkBringS (k + ceBring x) xs
def cnBring (x : GBring) : Int := cnStringS x.To + cnStringS x.Data
def mkBring (k : Int) (x : GBring) : GBring := ⟨x.State, x.From, mkStringS (k) x.To, mkStringS (k + cnStringS x.To) x.Data⟩
theorem ceBring_nn (x : GBring) : 0 ≤ ceBring x := by
 unfold ceBring
 have h2 := cnStringS_nn x.To
 have h3 := cnStringS_nn x.Data
 omega
theorem ceBring_les (x : GBring) : ceBring x ≤ 20 * (1 + ((zsBring x).sum : Int)) := by
 have h2 := cnStringS_les x.To
 have h3 := cnStringS_les x.Data
 simp only [ceBring, zsBring, List.sum_append, List.sum_cons, List.sum_nil]
 omega
theorem cnBring_les (x : GBring) : cnBring x ≤ 20 * ((zsBring x).sum : Int) := by
 have h2 := cnStringS_les x.To
 have h3 := cnStringS_les x.Data
 simp only [cnBring, zsBring, List.sum_append, List.sum_cons, List.sum_nil]
 omega
theorem ceBring_ge (x : GBring) : 1 ≤ ceBring x := by
 unfold ceBring
 have h2 := cnStringS_nn x.To
 have h3 := cnStringS_nn x.Data
 omega
theorem cnBringS_nn : ∀ xs : List GBring, 0 ≤ cnBringS xs
  | [] => by simp [cnBringS]
  | x :: xs => by have h1 := ceBring_nn x; have h2 := cnBringS_nn xs; simp only [cnBringS]; omega
theorem cnBringS_les : ∀ xs : List GBring, cnBringS xs ≤ 20 * ((zsBringS xs).sum : Int)
  | [] => by simp [cnBringS, zsBringS]
  | x :: xs => by
    have h1 := ceBring_les x; have h2 := cnBringS_les xs
    simp only [cnBringS, zsBringS, List.length_cons, List.flatMap_cons, List.sum_cons, List.sum_append] at *
    omega
theorem cnBringS_ge : ∀ xs : List GBring, (List.length xs : Int) ≤ cnBringS xs
  | [] => by simp [cnBringS]
  | x :: xs => by have h1 := ceBring_ge x; have h2 := cnBringS_ge xs; simp only [cnBringS, List.length_cons]; omega
theorem cnBringS_app : ∀ (xs ys : List GBring), cnBringS (xs ++ ys) = cnBringS xs + cnBringS ys
  | [], ys => by simp [cnBringS]
  | x :: xs, ys => by simp only [List.cons_append, cnBringS, cnBringS_app xs ys]; omega
theorem cnBringS_one (x : GBring) : cnBringS [x] = ceBring x := by simp [cnBringS, ceBring]
theorem mkBringS_len : ∀ (xs : List GBring) (k : Int), (mkBringS k xs).length = xs.length
  | [], _ => rfl
  | x :: xs, k => by simp [mkBringS, mkBringS_len xs]
theorem mkBringS_app : ∀ (xs ys : List GBring) (k : Int), mkBringS k (xs ++ ys) = mkBringS k xs ++ mkBringS (k + cnBringS xs) ys
  | [], ys, k => by simp [mkBringS, cnBringS]
  | x :: xs, ys, k => by
    simp only [List.cons_append, mkBringS, mkBringS_app xs ys, cnBringS]
    congr 3
    omega
theorem mkBringS_at {xs : List GBring} {i : Nat} {x : GBring} (k : Int) (h : xs[i]? = some x) : mkBringS k (xs.take (i + 1)) = mkBringS k (xs.take i) ++ [meBring (k + cnBringS (xs.take i)) x] := by
 rw [List.take_add_one, h, Option.toList_some, mkBringS_app]; rfl
theorem mkBringS_get : ∀ {xs : List GBring} {i : Nat} {x : GBring} (k : Int) (h : xs[i]? = some x), (mkBringS k xs)[i]? = some (meBring (k + cnBringS (xs.take i)) x)
  | y :: xs, 0, x, k, h => by
    simp only [List.getElem?_cons_zero, Option.some.injEq] at h; subst h; simp [mkBringS, cnBringS, meBring]
  | y :: xs, i + 1, x, k, h => by
    have := mkBringS_get (k + ceBring y) (xs := xs) (i := i) (x := x) (by simpa using h)
    simp only [mkBringS, List.getElem?_cons_succ, List.take_succ_cons]
    have e := cnBringS_app [y] (xs.take i); have e2 := cnBringS_one y
    simp only [List.singleton_append] at e
    rw [e, e2, ← Int.add_assoc]; exact this
theorem cnBringS_at {xs : List GBring} {i : Nat} {x : GBring} (h : xs[i]? = some x) : cnBringS (xs.take (i + 1)) = cnBringS (xs.take i) + ceBring x := by
 rw [List.take_add_one, h, Option.toList_some, cnBringS_app, cnBringS_one]
theorem cnBringS_le (xs : List GBring) (i : Nat) : cnBringS (xs.take i) ≤ cnBringS xs := by
 have h := cnBringS_app (xs.take i) (xs.drop i)
 rw [List.take_append_drop] at h
 have := cnBringS_nn (xs.drop i); omega
def ceFetch (x : GFetch) : Int := 1 + 1 + cnMailS x.Mails + cnBoolS x.Gone
def meFetch (k : Int) (x : GFetch) : GFetch := ⟨(k), mt (k + 1), mkMailS (k + 1 + 1) x.Mails, mkBoolS (k + 1 + 1 + cnMailS x.Mails) x.Gone⟩
def cnFetchS : List GFetch → Int
  | [] => 0
  | x :: xs => ceFetch x + cnFetchS xs
def mkFetchS : Int → List GFetch → List GFetch
  | _, [] => []
  | k, x :: xs => meFetch k x :: mkFetchS (k + ceFetch x) xs
def cnFetch (x : GFetch) : Int := cnMailS x.Mails + cnBoolS x.Gone
def mkFetch (k : Int) (x : GFetch) : GFetch := ⟨x.State, x.User, mkMailS (k) x.Mails, mkBoolS (k + cnMailS x.Mails) x.Gone⟩
theorem ceFetch_nn (x : GFetch) : 0 ≤ ceFetch x := by
 unfold ceFetch
 have h2 := cnMailS_nn x.Mails
 have h3 := cnBoolS_nn x.Gone
 omega
theorem ceFetch_les (x : GFetch) : ceFetch x ≤ 20 * (1 + ((zsFetch x).sum : Int)) := by
 have h2 := cnMailS_les x.Mails
 have h3 := cnBoolS_les x.Gone
 simp only [ceFetch, zsFetch, List.sum_append, List.sum_cons, List.sum_nil]
 omega
theorem cnFetch_les (x : GFetch) : cnFetch x ≤ 20 * ((zsFetch x).sum : Int) := by
 have h2 := cnMailS_les x.Mails
 have h3 := cnBoolS_les x.Gone
 simp only [cnFetch, zsFetch, List.sum_append, List.sum_cons, List.sum_nil]
 omega
theorem ceFetch_ge (x : GFetch) : 1 ≤ ceFetch x := by
 unfold ceFetch
 have h2 := cnMailS_nn x.Mails
 have h3 := cnBoolS_nn x.Gone
 omega
theorem cnFetchS_nn : ∀ xs : List GFetch, 0 ≤ cnFetchS xs
  | [] => by simp [cnFetchS]
  | x :: xs => by have h1 := ceFetch_nn x; have h2 := cnFetchS_nn xs; simp only [cnFetchS]; omega
theorem cnFetchS_les : ∀ xs : List GFetch, cnFetchS xs ≤ 20 * ((zsFetchS xs).sum : Int)
  | [] => by simp [cnFetchS, zsFetchS]
  | x :: xs => by
    have h1 := ceFetch_les x; have h2 := cnFetchS_les xs
    simp only [cnFetchS, zsFetchS, List.length_cons, List.flatMap_cons, List.sum_cons, List.sum_append] at *
    omega
theorem cnFetchS_ge : ∀ xs : List GFetch, (List.length xs : Int) ≤ cnFetchS xs
  | [] => by simp [cnFetchS]
  | x :: xs => by have h1 := ceFetch_ge x; have h2 := cnFetchS_ge xs; simp only [cnFetchS, List.length_cons]; omega
theorem cnFetchS_app : ∀ (xs ys : List GFetch), cnFetchS (xs ++ ys) = cnFetchS xs + cnFetchS ys
  | [], ys => by simp [cnFetchS]
  | x :: xs, ys => by simp only [List.cons_append, cnFetchS, cnFetchS_app xs ys]; omega
theorem cnFetchS_one (x : GFetch) : cnFetchS [x] = ceFetch x := by simp [cnFetchS, ceFetch]
theorem mkFetchS_len : ∀ (xs : List GFetch) (k : Int), (mkFetchS k xs).length = xs.length
  | [], _ => rfl
  | x :: xs, k => by simp [mkFetchS, mkFetchS_len xs]
theorem mkFetchS_app : ∀ (xs ys : List GFetch) (k : Int), mkFetchS k (xs ++ ys) = mkFetchS k xs ++ mkFetchS (k + cnFetchS xs) ys
  | [], ys, k => by simp [mkFetchS, cnFetchS]
  | x :: xs, ys, k => by
    simp only [List.cons_append, mkFetchS, mkFetchS_app xs ys, cnFetchS]
    congr 3
    omega
theorem mkFetchS_at {xs : List GFetch} {i : Nat} {x : GFetch} (k : Int) (h : xs[i]? = some x) : mkFetchS k (xs.take (i + 1)) = mkFetchS k (xs.take i) ++ [meFetch (k + cnFetchS (xs.take i)) x] := by
 rw [List.take_add_one, h, Option.toList_some, mkFetchS_app]; rfl
theorem mkFetchS_get : ∀ {xs : List GFetch} {i : Nat} {x : GFetch} (k : Int) (h : xs[i]? = some x), (mkFetchS k xs)[i]? = some (meFetch (k + cnFetchS (xs.take i)) x)
  | y :: xs, 0, x, k, h => by
    simp only [List.getElem?_cons_zero, Option.some.injEq] at h; subst h; simp [mkFetchS, cnFetchS, meFetch]
  | y :: xs, i + 1, x, k, h => by
    have := mkFetchS_get (k + ceFetch y) (xs := xs) (i := i) (x := x) (by simpa using h)
    simp only [mkFetchS, List.getElem?_cons_succ, List.take_succ_cons]
    have e := cnFetchS_app [y] (xs.take i); have e2 := cnFetchS_one y
    simp only [List.singleton_append] at e
    rw [e, e2, ← Int.add_assoc]; exact this
theorem cnFetchS_at {xs : List GFetch} {i : Nat} {x : GFetch} (h : xs[i]? = some x) : cnFetchS (xs.take (i + 1)) = cnFetchS (xs.take i) + ceFetch x := by
 rw [List.take_add_one, h, Option.toList_some, cnFetchS_app, cnFetchS_one]
theorem cnFetchS_le (xs : List GFetch) (i : Nat) : cnFetchS (xs.take i) ≤ cnFetchS xs := by
 have h := cnFetchS_app (xs.take i) (xs.drop i)
 rw [List.take_append_drop] at h
 have := cnFetchS_nn (xs.drop i); omega
def ceLook (x : GLook) : Int := 1 + 1 + 1 + 1 + cnIntS x.Uids
def meLook (k : Int) (x : GLook) : GLook := ⟨(k), mt (k + 1), mt (k + 1 + 1), (k + 1 + 1 + 1), mkIntS (k + 1 + 1 + 1 + 1) x.Uids⟩
def cnLookS : List GLook → Int
  | [] => 0
  | x :: xs => ceLook x + cnLookS xs
def mkLookS : Int → List GLook → List GLook
  | _, [] => []
  | k, x :: xs => meLook k x :: mkLookS (k + ceLook x) xs
def cnLook (x : GLook) : Int := cnIntS x.Uids
def mkLook (k : Int) (x : GLook) : GLook := ⟨x.State, x.User, x.Box, x.Valid, mkIntS (k) x.Uids⟩
theorem ceLook_nn (x : GLook) : 0 ≤ ceLook x := by
 unfold ceLook
 have h4 := cnIntS_nn x.Uids
 omega
theorem ceLook_les (x : GLook) : ceLook x ≤ 20 * (1 + ((zsLook x).sum : Int)) := by
 have h4 := cnIntS_les x.Uids
 simp only [ceLook, zsLook, List.sum_append, List.sum_cons, List.sum_nil]
 omega
theorem cnLook_les (x : GLook) : cnLook x ≤ 20 * ((zsLook x).sum : Int) := by
 have h4 := cnIntS_les x.Uids
 simp only [cnLook, zsLook, List.sum_append, List.sum_cons, List.sum_nil]
 omega
theorem ceLook_ge (x : GLook) : 1 ≤ ceLook x := by
 unfold ceLook
 have h4 := cnIntS_nn x.Uids
 omega
theorem cnLookS_nn : ∀ xs : List GLook, 0 ≤ cnLookS xs
  | [] => by simp [cnLookS]
  | x :: xs => by have h1 := ceLook_nn x; have h2 := cnLookS_nn xs; simp only [cnLookS]; omega
theorem cnLookS_les : ∀ xs : List GLook, cnLookS xs ≤ 20 * ((zsLookS xs).sum : Int)
  | [] => by simp [cnLookS, zsLookS]
  | x :: xs => by
    have h1 := ceLook_les x; have h2 := cnLookS_les xs
    simp only [cnLookS, zsLookS, List.length_cons, List.flatMap_cons, List.sum_cons, List.sum_append] at *
    omega
theorem cnLookS_ge : ∀ xs : List GLook, (List.length xs : Int) ≤ cnLookS xs
  | [] => by simp [cnLookS]
  | x :: xs => by have h1 := ceLook_ge x; have h2 := cnLookS_ge xs; simp only [cnLookS, List.length_cons]; omega
theorem cnLookS_app : ∀ (xs ys : List GLook), cnLookS (xs ++ ys) = cnLookS xs + cnLookS ys
  | [], ys => by simp [cnLookS]
  | x :: xs, ys => by simp only [List.cons_append, cnLookS, cnLookS_app xs ys]; omega
theorem cnLookS_one (x : GLook) : cnLookS [x] = ceLook x := by simp [cnLookS, ceLook]
theorem mkLookS_len : ∀ (xs : List GLook) (k : Int), (mkLookS k xs).length = xs.length
  | [], _ => rfl
  | x :: xs, k => by simp [mkLookS, mkLookS_len xs]
theorem mkLookS_app : ∀ (xs ys : List GLook) (k : Int), mkLookS k (xs ++ ys) = mkLookS k xs ++ mkLookS (k + cnLookS xs) ys
  | [], ys, k => by simp [mkLookS, cnLookS]
  | x :: xs, ys, k => by
    simp only [List.cons_append, mkLookS, mkLookS_app xs ys, cnLookS]
    congr 3
    omega
theorem mkLookS_at {xs : List GLook} {i : Nat} {x : GLook} (k : Int) (h : xs[i]? = some x) : mkLookS k (xs.take (i + 1)) = mkLookS k (xs.take i) ++ [meLook (k + cnLookS (xs.take i)) x] := by
 rw [List.take_add_one, h, Option.toList_some, mkLookS_app]; rfl
theorem mkLookS_get : ∀ {xs : List GLook} {i : Nat} {x : GLook} (k : Int) (h : xs[i]? = some x), (mkLookS k xs)[i]? = some (meLook (k + cnLookS (xs.take i)) x)
  | y :: xs, 0, x, k, h => by
    simp only [List.getElem?_cons_zero, Option.some.injEq] at h; subst h; simp [mkLookS, cnLookS, meLook]
  | y :: xs, i + 1, x, k, h => by
    have := mkLookS_get (k + ceLook y) (xs := xs) (i := i) (x := x) (by simpa using h)
    simp only [mkLookS, List.getElem?_cons_succ, List.take_succ_cons]
    have e := cnLookS_app [y] (xs.take i); have e2 := cnLookS_one y
    simp only [List.singleton_append] at e
    rw [e, e2, ← Int.add_assoc]; exact this
theorem cnLookS_at {xs : List GLook} {i : Nat} {x : GLook} (h : xs[i]? = some x) : cnLookS (xs.take (i + 1)) = cnLookS (xs.take i) + ceLook x := by
 rw [List.take_add_one, h, Option.toList_some, cnLookS_app, cnLookS_one]
theorem cnLookS_le (xs : List GLook) (i : Nat) : cnLookS (xs.take i) ≤ cnLookS xs := by
 have h := cnLookS_app (xs.take i) (xs.drop i)
 rw [List.take_append_drop] at h
 have := cnLookS_nn (xs.drop i); omega
def ceSession (x : GSession) : Int := 1 + 1 + 1 + 1 + 1 + 1 + cnStringS x.Bring.To + cnStringS x.Bring.Data + 1 + 1 + cnMailS x.Fetch.Mails + cnBoolS x.Fetch.Gone + 1 + 1 + 1 + 1 + cnIntS x.Look.Uids
def meSession (k : Int) (x : GSession) : GSession := ⟨(k), mt (k + 1), mt (k + 1 + 1), mb (k + 1 + 1 + 1), ⟨(k + 1 + 1 + 1 + 1), mt (k + 1 + 1 + 1 + 1 + 1), mkStringS (k + 1 + 1 + 1 + 1 + 1 + 1) x.Bring.To, mkStringS (k + 1 + 1 + 1 + 1 + 1 + 1 + cnStringS x.Bring.To) x.Bring.Data⟩, ⟨(k + 1 + 1 + 1 + 1 + 1 + 1 + cnStringS x.Bring.To + cnStringS x.Bring.Data), mt (k + 1 + 1 + 1 + 1 + 1 + 1 + cnStringS x.Bring.To + cnStringS x.Bring.Data + 1), mkMailS (k + 1 + 1 + 1 + 1 + 1 + 1 + cnStringS x.Bring.To + cnStringS x.Bring.Data + 1 + 1) x.Fetch.Mails, mkBoolS (k + 1 + 1 + 1 + 1 + 1 + 1 + cnStringS x.Bring.To + cnStringS x.Bring.Data + 1 + 1 + cnMailS x.Fetch.Mails) x.Fetch.Gone⟩, ⟨(k + 1 + 1 + 1 + 1 + 1 + 1 + cnStringS x.Bring.To + cnStringS x.Bring.Data + 1 + 1 + cnMailS x.Fetch.Mails + cnBoolS x.Fetch.Gone), mt (k + 1 + 1 + 1 + 1 + 1 + 1 + cnStringS x.Bring.To + cnStringS x.Bring.Data + 1 + 1 + cnMailS x.Fetch.Mails + cnBoolS x.Fetch.Gone + 1), mt (k + 1 + 1 + 1 + 1 + 1 + 1 + cnStringS x.Bring.To + cnStringS x.Bring.Data + 1 + 1 + cnMailS x.Fetch.Mails + cnBoolS x.Fetch.Gone + 1 + 1), (k + 1 + 1 + 1 + 1 + 1 + 1 + cnStringS x.Bring.To + cnStringS x.Bring.Data + 1 + 1 + cnMailS x.Fetch.Mails + cnBoolS x.Fetch.Gone + 1 + 1 + 1), mkIntS (k + 1 + 1 + 1 + 1 + 1 + 1 + cnStringS x.Bring.To + cnStringS x.Bring.Data + 1 + 1 + cnMailS x.Fetch.Mails + cnBoolS x.Fetch.Gone + 1 + 1 + 1 + 1) x.Look.Uids⟩⟩
def cnSessionS : List GSession → Int
  | [] => 0
  | x :: xs => ceSession x + cnSessionS xs
def mkSessionS : Int → List GSession → List GSession
  | _, [] => []
  | k, x :: xs => meSession k x :: mkSessionS (k + ceSession x) xs
def cnSession (x : GSession) : Int := cnStringS x.Bring.To + cnStringS x.Bring.Data + cnMailS x.Fetch.Mails + cnBoolS x.Fetch.Gone + cnIntS x.Look.Uids
def mkSession (k : Int) (x : GSession) : GSession := ⟨x.Kind, x.In, x.Out, x.Over, ⟨x.Bring.State, x.Bring.From, mkStringS (k) x.Bring.To, mkStringS (k + cnStringS x.Bring.To) x.Bring.Data⟩, ⟨x.Fetch.State, x.Fetch.User, mkMailS (k + cnStringS x.Bring.To + cnStringS x.Bring.Data) x.Fetch.Mails, mkBoolS (k + cnStringS x.Bring.To + cnStringS x.Bring.Data + cnMailS x.Fetch.Mails) x.Fetch.Gone⟩, ⟨x.Look.State, x.Look.User, x.Look.Box, x.Look.Valid, mkIntS (k + cnStringS x.Bring.To + cnStringS x.Bring.Data + cnMailS x.Fetch.Mails + cnBoolS x.Fetch.Gone) x.Look.Uids⟩⟩
theorem ceSession_nn (x : GSession) : 0 ≤ ceSession x := by
 unfold ceSession
 have h6 := cnStringS_nn x.Bring.To
 have h7 := cnStringS_nn x.Bring.Data
 have h10 := cnMailS_nn x.Fetch.Mails
 have h11 := cnBoolS_nn x.Fetch.Gone
 have h16 := cnIntS_nn x.Look.Uids
 omega
theorem ceSession_les (x : GSession) : ceSession x ≤ 20 * (1 + ((zsSession x).sum : Int)) := by
 have h6 := cnStringS_les x.Bring.To
 have h7 := cnStringS_les x.Bring.Data
 have h10 := cnMailS_les x.Fetch.Mails
 have h11 := cnBoolS_les x.Fetch.Gone
 have h16 := cnIntS_les x.Look.Uids
 simp only [ceSession, zsSession, zsBring, zsFetch, zsLook, List.sum_append, List.sum_cons, List.sum_nil]
 omega
theorem cnSession_les (x : GSession) : cnSession x ≤ 20 * ((zsSession x).sum : Int) := by
 have h6 := cnStringS_les x.Bring.To
 have h7 := cnStringS_les x.Bring.Data
 have h10 := cnMailS_les x.Fetch.Mails
 have h11 := cnBoolS_les x.Fetch.Gone
 have h16 := cnIntS_les x.Look.Uids
 simp only [cnSession, zsSession, zsBring, zsFetch, zsLook, List.sum_append, List.sum_cons, List.sum_nil]
 omega
theorem ceSession_ge (x : GSession) : 1 ≤ ceSession x := by
 unfold ceSession
 have h6 := cnStringS_nn x.Bring.To
 have h7 := cnStringS_nn x.Bring.Data
 have h10 := cnMailS_nn x.Fetch.Mails
 have h11 := cnBoolS_nn x.Fetch.Gone
 have h16 := cnIntS_nn x.Look.Uids
 omega
theorem cnSessionS_nn : ∀ xs : List GSession, 0 ≤ cnSessionS xs
  | [] => by simp [cnSessionS]
  | x :: xs => by have h1 := ceSession_nn x; have h2 := cnSessionS_nn xs; simp only [cnSessionS]; omega
theorem cnSessionS_les : ∀ xs : List GSession, cnSessionS xs ≤ 20 * ((zsSessionS xs).sum : Int)
  | [] => by simp [cnSessionS, zsSessionS]
  | x :: xs => by
    have h1 := ceSession_les x; have h2 := cnSessionS_les xs
    simp only [cnSessionS, zsSessionS, List.length_cons, List.flatMap_cons, List.sum_cons, List.sum_append] at *
    omega
theorem cnSessionS_ge : ∀ xs : List GSession, (List.length xs : Int) ≤ cnSessionS xs
  | [] => by simp [cnSessionS]
  | x :: xs => by have h1 := ceSession_ge x; have h2 := cnSessionS_ge xs; simp only [cnSessionS, List.length_cons]; omega
theorem cnSessionS_app : ∀ (xs ys : List GSession), cnSessionS (xs ++ ys) = cnSessionS xs + cnSessionS ys
  | [], ys => by simp [cnSessionS]
  | x :: xs, ys => by simp only [List.cons_append, cnSessionS, cnSessionS_app xs ys]; omega
theorem cnSessionS_one (x : GSession) : cnSessionS [x] = ceSession x := by simp [cnSessionS, ceSession]
theorem mkSessionS_len : ∀ (xs : List GSession) (k : Int), (mkSessionS k xs).length = xs.length
  | [], _ => rfl
  | x :: xs, k => by simp [mkSessionS, mkSessionS_len xs]
theorem mkSessionS_app : ∀ (xs ys : List GSession) (k : Int), mkSessionS k (xs ++ ys) = mkSessionS k xs ++ mkSessionS (k + cnSessionS xs) ys
  | [], ys, k => by simp [mkSessionS, cnSessionS]
  | x :: xs, ys, k => by
    simp only [List.cons_append, mkSessionS, mkSessionS_app xs ys, cnSessionS]
    congr 3
    omega
theorem mkSessionS_at {xs : List GSession} {i : Nat} {x : GSession} (k : Int) (h : xs[i]? = some x) : mkSessionS k (xs.take (i + 1)) = mkSessionS k (xs.take i) ++ [meSession (k + cnSessionS (xs.take i)) x] := by
 rw [List.take_add_one, h, Option.toList_some, mkSessionS_app]; rfl
theorem mkSessionS_get : ∀ {xs : List GSession} {i : Nat} {x : GSession} (k : Int) (h : xs[i]? = some x), (mkSessionS k xs)[i]? = some (meSession (k + cnSessionS (xs.take i)) x)
  | y :: xs, 0, x, k, h => by
    simp only [List.getElem?_cons_zero, Option.some.injEq] at h; subst h; simp [mkSessionS, cnSessionS, meSession]
  | y :: xs, i + 1, x, k, h => by
    have := mkSessionS_get (k + ceSession y) (xs := xs) (i := i) (x := x) (by simpa using h)
    simp only [mkSessionS, List.getElem?_cons_succ, List.take_succ_cons]
    have e := cnSessionS_app [y] (xs.take i); have e2 := cnSessionS_one y
    simp only [List.singleton_append] at e
    rw [e, e2, ← Int.add_assoc]; exact this
theorem cnSessionS_at {xs : List GSession} {i : Nat} {x : GSession} (h : xs[i]? = some x) : cnSessionS (xs.take (i + 1)) = cnSessionS (xs.take i) + ceSession x := by
 rw [List.take_add_one, h, Option.toList_some, cnSessionS_app, cnSessionS_one]
theorem cnSessionS_le (xs : List GSession) (i : Nat) : cnSessionS (xs.take i) ≤ cnSessionS xs := by
 have h := cnSessionS_app (xs.take i) (xs.drop i)
 rw [List.take_append_drop] at h
 have := cnSessionS_nn (xs.drop i); omega
def ceState (x : GState) : Int := cnBoxS x.Boxes
def meState (k : Int) (x : GState) : GState := ⟨mkBoxS (k) x.Boxes⟩
def cnStateS : List GState → Int
  | [] => 0
  | x :: xs => ceState x + cnStateS xs
def mkStateS : Int → List GState → List GState
  | _, [] => []
  | k, x :: xs => meState k x :: mkStateS (k + ceState x) xs
def cnState (x : GState) : Int := cnBoxS x.Boxes
def mkState (k : Int) (x : GState) : GState := ⟨mkBoxS (k) x.Boxes⟩
theorem ceState_nn (x : GState) : 0 ≤ ceState x := by
 unfold ceState
 have h0 := cnBoxS_nn x.Boxes
 omega
theorem ceState_les (x : GState) : ceState x ≤ 20 * (1 + ((zsState x).sum : Int)) := by
 have h0 := cnBoxS_les x.Boxes
 simp only [ceState, zsState, List.sum_append, List.sum_cons, List.sum_nil]
 omega
theorem cnState_les (x : GState) : cnState x ≤ 20 * ((zsState x).sum : Int) := by
 have h0 := cnBoxS_les x.Boxes
 simp only [cnState, zsState, List.sum_append, List.sum_cons, List.sum_nil]
 omega
theorem ceState_ge0 (x : GState) : True := trivial
def cePlain (x : GPlain) : Int := cnBoxS x.State.Boxes + 1 + cnSessionS x.Sessions
def mePlain (k : Int) (x : GPlain) : GPlain := ⟨⟨mkBoxS (k) x.State.Boxes⟩, (k + cnBoxS x.State.Boxes), mkSessionS (k + cnBoxS x.State.Boxes + 1) x.Sessions⟩
def cnPlainS : List GPlain → Int
  | [] => 0
  | x :: xs => cePlain x + cnPlainS xs
def mkPlainS : Int → List GPlain → List GPlain
  | _, [] => []
  | k, x :: xs => mePlain k x :: mkPlainS (k + cePlain x) xs
def cnPlain (x : GPlain) : Int := cnBoxS x.State.Boxes + cnSessionS x.Sessions
def mkPlain (k : Int) (x : GPlain) : GPlain := ⟨⟨mkBoxS (k) x.State.Boxes⟩, x.NextValid, mkSessionS (k + cnBoxS x.State.Boxes) x.Sessions⟩
theorem cePlain_nn (x : GPlain) : 0 ≤ cePlain x := by
 unfold cePlain
 have h0 := cnBoxS_nn x.State.Boxes
 have h2 := cnSessionS_nn x.Sessions
 omega
theorem cePlain_les (x : GPlain) : cePlain x ≤ 20 * (1 + ((zsPlain x).sum : Int)) := by
 have h0 := cnBoxS_les x.State.Boxes
 have h2 := cnSessionS_les x.Sessions
 simp only [cePlain, zsPlain, zsState, List.sum_append, List.sum_cons, List.sum_nil]
 omega
theorem cnPlain_les (x : GPlain) : cnPlain x ≤ 20 * ((zsPlain x).sum : Int) := by
 have h0 := cnBoxS_les x.State.Boxes
 have h2 := cnSessionS_les x.Sessions
 simp only [cnPlain, zsPlain, zsState, List.sum_append, List.sum_cons, List.sum_nil]
 omega
theorem cePlain_ge (x : GPlain) : 1 ≤ cePlain x := by
 unfold cePlain
 have h0 := cnBoxS_nn x.State.Boxes
 have h2 := cnSessionS_nn x.Sessions
 omega
theorem cnPlainS_nn : ∀ xs : List GPlain, 0 ≤ cnPlainS xs
  | [] => by simp [cnPlainS]
  | x :: xs => by have h1 := cePlain_nn x; have h2 := cnPlainS_nn xs; simp only [cnPlainS]; omega
theorem cnPlainS_les : ∀ xs : List GPlain, cnPlainS xs ≤ 20 * ((zsPlainS xs).sum : Int)
  | [] => by simp [cnPlainS, zsPlainS]
  | x :: xs => by
    have h1 := cePlain_les x; have h2 := cnPlainS_les xs
    simp only [cnPlainS, zsPlainS, List.length_cons, List.flatMap_cons, List.sum_cons, List.sum_append] at *
    omega
theorem cnPlainS_ge : ∀ xs : List GPlain, (List.length xs : Int) ≤ cnPlainS xs
  | [] => by simp [cnPlainS]
  | x :: xs => by have h1 := cePlain_ge x; have h2 := cnPlainS_ge xs; simp only [cnPlainS, List.length_cons]; omega
theorem cnPlainS_app : ∀ (xs ys : List GPlain), cnPlainS (xs ++ ys) = cnPlainS xs + cnPlainS ys
  | [], ys => by simp [cnPlainS]
  | x :: xs, ys => by simp only [List.cons_append, cnPlainS, cnPlainS_app xs ys]; omega
theorem cnPlainS_one (x : GPlain) : cnPlainS [x] = cePlain x := by simp [cnPlainS, cePlain]
theorem mkPlainS_len : ∀ (xs : List GPlain) (k : Int), (mkPlainS k xs).length = xs.length
  | [], _ => rfl
  | x :: xs, k => by simp [mkPlainS, mkPlainS_len xs]
theorem mkPlainS_app : ∀ (xs ys : List GPlain) (k : Int), mkPlainS k (xs ++ ys) = mkPlainS k xs ++ mkPlainS (k + cnPlainS xs) ys
  | [], ys, k => by simp [mkPlainS, cnPlainS]
  | x :: xs, ys, k => by
    simp only [List.cons_append, mkPlainS, mkPlainS_app xs ys, cnPlainS]
    congr 3
    omega
theorem mkPlainS_at {xs : List GPlain} {i : Nat} {x : GPlain} (k : Int) (h : xs[i]? = some x) : mkPlainS k (xs.take (i + 1)) = mkPlainS k (xs.take i) ++ [mePlain (k + cnPlainS (xs.take i)) x] := by
 rw [List.take_add_one, h, Option.toList_some, mkPlainS_app]; rfl
theorem mkPlainS_get : ∀ {xs : List GPlain} {i : Nat} {x : GPlain} (k : Int) (h : xs[i]? = some x), (mkPlainS k xs)[i]? = some (mePlain (k + cnPlainS (xs.take i)) x)
  | y :: xs, 0, x, k, h => by
    simp only [List.getElem?_cons_zero, Option.some.injEq] at h; subst h; simp [mkPlainS, cnPlainS, mePlain]
  | y :: xs, i + 1, x, k, h => by
    have := mkPlainS_get (k + cePlain y) (xs := xs) (i := i) (x := x) (by simpa using h)
    simp only [mkPlainS, List.getElem?_cons_succ, List.take_succ_cons]
    have e := cnPlainS_app [y] (xs.take i); have e2 := cnPlainS_one y
    simp only [List.singleton_append] at e
    rw [e, e2, ← Int.add_assoc]; exact this
theorem cnPlainS_at {xs : List GPlain} {i : Nat} {x : GPlain} (h : xs[i]? = some x) : cnPlainS (xs.take (i + 1)) = cnPlainS (xs.take i) + cePlain x := by
 rw [List.take_add_one, h, Option.toList_some, cnPlainS_app, cnPlainS_one]
theorem cnPlainS_le (xs : List GPlain) (i : Nat) : cnPlainS (xs.take i) ≤ cnPlainS xs := by
 have h := cnPlainS_app (xs.take i) (xs.drop i)
 rw [List.take_append_drop] at h
 have := cnPlainS_nn (xs.drop i); omega
end Go.Av
