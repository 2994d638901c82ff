/- What marks are. -/
import Derived.Test.YtjbokkoiicoahaaGreatTy
namespace Go.Av
open Go Go.Proofs
set_option maxRecDepth 100000
set_option maxHeartbeats 4000000
set_option linter.unusedVariables false
set_option linter.unusedSimpArgs false
def dig (k : Int) : ByteArray := strOfNums [IntKind.u8.wrap (IntKind.i64.wrap (48 + k.tmod 10))]
def mtGo (k : Int) (out : ByteArray) : ByteArray := if h : 0 < k then mtGo (k.tdiv 10) (dig k ++ out) else out
 termination_by k.toNat
 decreasing_by rw [Int.tdiv_eq_ediv_of_nonneg (by omega)]; omega
def mt (k : Int) : ByteArray := if k ≤ 0 then ⟨#[109, 48]⟩ else ⟨#[109]⟩ ++ mtGo k ⟨#[]⟩
def mb (k : Int) : Bool := k.tmod 3 == 0
def cnIntS (xs : List Int) : Int := xs.length
def mkIntS : Int → List Int → List Int
 | _, [] => []
 | k, _ :: xs => (k) :: mkIntS (k + 1) xs
def ceInt (_ : Int) : Int := 1
def meInt (k : Int) (_ : Int) : Int := (k)
theorem cnIntS_nn (xs : List Int) : 0 ≤ cnIntS xs := by simp [cnIntS]
theorem cnIntS_les (xs : List Int) : cnIntS xs ≤ 20 * ((zsIntS xs).sum : Int) := by simp only [cnIntS, zsIntS, List.sum_cons]; omega
theorem cnIntS_ge (xs : List Int) : (List.length xs : Int) ≤ cnIntS xs := by simp [cnIntS]
theorem cnIntS_app (xs ys : List Int) : cnIntS (xs ++ ys) = cnIntS xs + cnIntS ys := by simp [cnIntS]
theorem cnIntS_one (x : Int) : cnIntS [x] = ceInt x := by simp [cnIntS, ceInt]
theorem mkIntS_len : ∀ (xs : List Int) (k : Int), (mkIntS k xs).length = xs.length
 | [], _ => rfl
 | x :: xs, k => by simp [mkIntS, mkIntS_len xs]
theorem mkIntS_app : ∀ (xs ys : List Int) (k : Int), mkIntS k (xs ++ ys) = mkIntS k xs ++ mkIntS (k + cnIntS xs) ys
 | [], ys, k => by simp [mkIntS, cnIntS]
 | x :: xs, ys, k => by
  simp only [List.cons_append, mkIntS, mkIntS_app xs ys]
  congr 3
  have := cnIntS_one x; have h2 := cnIntS_app [x] xs
  simp only [List.singleton_append] at h2
  rw [h2, this]; unfold ceInt; omega
theorem mkIntS_at {xs : List Int} {i : Nat} {x : Int} (k : Int) (h : xs[i]? = some x) : mkIntS k (xs.take (i + 1)) = mkIntS k (xs.take i) ++ [meInt (k + cnIntS (xs.take i)) x] := by
 rw [List.take_add_one, h, Option.toList_some, mkIntS_app]; rfl
theorem mkIntS_get : ∀ {xs : List Int} {i : Nat} {x : Int} (k : Int) (h : xs[i]? = some x), (mkIntS k xs)[i]? = some (meInt (k + cnIntS (xs.take i)) x)
 | y :: xs, 0, x, k, h => by
  simp only [List.getElem?_cons_zero, Option.some.injEq] at h; subst h; simp [mkIntS, cnIntS, meInt]
 | y :: xs, i + 1, x, k, h => by
  have := mkIntS_get (k + ceInt y) (xs := xs) (i := i) (x := x) (by simpa using h)
  simp only [mkIntS, List.getElem?_cons_succ, List.take_succ_cons]
  have e := cnIntS_app [y] (xs.take i); have e2 := cnIntS_one y
  simp only [List.singleton_append] at e
  rw [e, e2, ← Int.add_assoc]; exact this
theorem cnIntS_at {xs : List Int} {i : Nat} {x : Int} (h : xs[i]? = some x) : cnIntS (xs.take (i + 1)) = cnIntS (xs.take i) + ceInt x := by
 rw [List.take_add_one, h, Option.toList_some, cnIntS_app, cnIntS_one]
theorem cnIntS_le (xs : List Int) (i : Nat) : cnIntS (xs.take i) ≤ cnIntS xs := by
 have h := cnIntS_app (xs.take i) (xs.drop i)
 rw [List.take_append_drop] at h
 have := cnIntS_nn (xs.drop i); omega
def cnBoolS (xs : List Bool) : Int := xs.length
def mkBoolS : Int → List Bool → List Bool
 | _, [] => []
 | k, _ :: xs => mb (k) :: mkBoolS (k + 1) xs
def ceBool (_ : Bool) : Int := 1
def meBool (k : Int) (_ : Bool) : Bool := mb (k)
theorem cnBoolS_nn (xs : List Bool) : 0 ≤ cnBoolS xs := by simp [cnBoolS]
theorem cnBoolS_les (xs : List Bool) : cnBoolS xs ≤ 20 * ((zsBoolS xs).sum : Int) := by simp only [cnBoolS, zsBoolS, List.sum_cons]; omega
theorem cnBoolS_ge (xs : List Bool) : (List.length xs : Int) ≤ cnBoolS xs := by simp [cnBoolS]
theorem cnBoolS_app (xs ys : List Bool) : cnBoolS (xs ++ ys) = cnBoolS xs + cnBoolS ys := by simp [cnBoolS]
theorem cnBoolS_one (x : Bool) : cnBoolS [x] = ceBool x := by simp [cnBoolS, ceBool]
theorem mkBoolS_len : ∀ (xs : List Bool) (k : Int), (mkBoolS k xs).length = xs.length
 | [], _ => rfl
 | x :: xs, k => by simp [mkBoolS, mkBoolS_len xs]
theorem mkBoolS_app : ∀ (xs ys : List Bool) (k : Int), mkBoolS k (xs ++ ys) = mkBoolS k xs ++ mkBoolS (k + cnBoolS xs) ys
 | [], ys, k => by simp [mkBoolS, cnBoolS]
 | x :: xs, ys, k => by
  simp only [List.cons_append, mkBoolS, mkBoolS_app xs ys]
  congr 3
  have := cnBoolS_one x; have h2 := cnBoolS_app [x] xs
  simp only [List.singleton_append] at h2
  rw [h2, this]; unfold ceBool; omega
theorem mkBoolS_at {xs : List Bool} {i : Nat} {x : Bool} (k : Int) (h : xs[i]? = some x) : mkBoolS k (xs.take (i + 1)) = mkBoolS k (xs.take i) ++ [meBool (k + cnBoolS (xs.take i)) x] := by
 rw [List.take_add_one, h, Option.toList_some, mkBoolS_app]; rfl
theorem mkBoolS_get : ∀ {xs : List Bool} {i : Nat} {x : Bool} (k : Int) (h : xs[i]? = some x), (mkBoolS k xs)[i]? = some (meBool (k + cnBoolS (xs.take i)) x)
 | y :: xs, 0, x, k, h => by
  simp only [List.getElem?_cons_zero, Option.some.injEq] at h; subst h; simp [mkBoolS, cnBoolS, meBool]
 | y :: xs, i + 1, x, k, h => by
  have := mkBoolS_get (k + ceBool y) (xs := xs) (i := i) (x := x) (by simpa using h)
  simp only [mkBoolS, List.getElem?_cons_succ, List.take_succ_cons]
  have e := cnBoolS_app [y] (xs.take i); have e2 := cnBoolS_one y
  simp only [List.singleton_append] at e
  rw [e, e2, ← Int.add_assoc]; exact this
theorem cnBoolS_at {xs : List Bool} {i : Nat} {x : Bool} (h : xs[i]? = some x) : cnBoolS (xs.take (i + 1)) = cnBoolS (xs.take i) + ceBool x := by
 rw [List.take_add_one, h, Option.toList_some, cnBoolS_app, cnBoolS_one]
theorem cnBoolS_le (xs : List Bool) (i : Nat) : cnBoolS (xs.take i) ≤ cnBoolS xs := by
 have h := cnBoolS_app (xs.take i) (xs.drop i)
 rw [List.take_append_drop] at h
 have := cnBoolS_nn (xs.drop i); omega
def cnStringS (xs : List ByteArray) : Int := xs.length
def mkStringS : Int → List ByteArray → List ByteArray
 | _, [] => []
 | k, _ :: xs => mt (k) :: mkStringS (k + 1) xs
def ceString (_ : ByteArray) : Int := 1
def meString (k : Int) (_ : ByteArray) : ByteArray := mt (k)
theorem cnStringS_nn (xs : List ByteArray) : 0 ≤ cnStringS xs := by simp [cnStringS]
theorem cnStringS_les (xs : List ByteArray) : cnStringS xs ≤ 20 * ((zsStringS xs).sum : Int) := by simp only [cnStringS, zsStringS, List.sum_cons]; omega
theorem cnStringS_ge (xs : List ByteArray) : (List.length xs : Int) ≤ cnStringS xs := by simp [cnStringS]
theorem cnStringS_app (xs ys : List ByteArray) : cnStringS (xs ++ ys) = cnStringS xs + cnStringS ys := by simp [cnStringS]
theorem cnStringS_one (x : ByteArray) : cnStringS [x] = ceString x := by simp [cnStringS, ceString]
theorem mkStringS_len : ∀ (xs : List ByteArray) (k : Int), (mkStringS k xs).length = xs.length
 | [], _ => rfl
 | x :: xs, k => by simp [mkStringS, mkStringS_len xs]
theorem mkStringS_app : ∀ (xs ys : List ByteArray) (k : Int), mkStringS k (xs ++ ys) = mkStringS k xs ++ mkStringS (k + cnStringS xs) ys
 | [], ys, k => by simp [mkStringS, cnStringS]
 | x :: xs, ys, k => by
  simp only [List.cons_append, mkStringS, mkStringS_app xs ys]
  congr 3
  have := cnStringS_one x; have h2 := cnStringS_app [x] xs
  simp only [List.singleton_append] at h2
  rw [h2, this]; unfold ceString; omega
theorem mkStringS_at {xs : List ByteArray} {i : Nat} {x : ByteArray} (k : Int) (h : xs[i]? = some x) : mkStringS k (xs.take (i + 1)) = mkStringS k (xs.take i) ++ [meString (k + cnStringS (xs.take i)) x] := by
 rw [List.take_add_one, h, Option.toList_some, mkStringS_app]; rfl
theorem mkStringS_get : ∀ {xs : List ByteArray} {i : Nat} {x : ByteArray} (k : Int) (h : xs[i]? = some x), (mkStringS k xs)[i]? = some (meString (k + cnStringS (xs.take i)) x)
 | y :: xs, 0, x, k, h => by
  simp only [List.getElem?_cons_zero, Option.some.injEq] at h; subst h; simp [mkStringS, cnStringS, meString]
 | y :: xs, i + 1, x, k, h => by
  have := mkStringS_get (k + ceString y) (xs := xs) (i := i) (x := x) (by simpa using h)
  simp only [mkStringS, List.getElem?_cons_succ, List.take_succ_cons]
  have e := cnStringS_app [y] (xs.take i); have e2 := cnStringS_one y
  simp only [List.singleton_append] at e
  rw [e, e2, ← Int.add_assoc]; exact this
theorem cnStringS_at {xs : List ByteArray} {i : Nat} {x : ByteArray} (h : xs[i]? = some x) : cnStringS (xs.take (i + 1)) = cnStringS (xs.take i) + ceString x := by
 rw [List.take_add_one, h, Option.toList_some, cnStringS_app, cnStringS_one]
theorem cnStringS_le (xs : List ByteArray) (i : Nat) : cnStringS (xs.take i) ≤ cnStringS xs := by
 have h := cnStringS_app (xs.take i) (xs.drop i)
 rw [List.take_append_drop] at h
 have := cnStringS_nn (xs.drop i); omega
def ceMail (x : GMail) : Int := 1 + 1 + 1
def meMail (k : Int) (x : GMail) : GMail := ⟨(k), (k + 1), mt (k + 1 + 1)⟩
def cnMailS : List GMail → Int
 | [] => 0
 | x :: xs => ceMail x + cnMailS xs
def mkMailS : Int → List GMail → List GMail
 | _, [] => []
 | k, x :: xs => meMail k x :: mkMailS (k + ceMail x) xs
theorem ceMail_nn (x : GMail) : 0 ≤ ceMail x := by
 unfold ceMail
 omega
theorem ceMail_les (x : GMail) : ceMail x ≤ 20 * (1 + ((zsMail x).sum : Int)) := by
 simp only [ceMail, zsMail, List.sum_append, List.sum_cons, List.sum_nil]
 omega
theorem ceMail_ge (x : GMail) : 1 ≤ ceMail x := by
 unfold ceMail
 omega
theorem cnMailS_nn : ∀ xs : List GMail, 0 ≤ cnMailS xs
 | [] => by simp [cnMailS]
 | x :: xs => by have h1 := ceMail_nn x; have h2 := cnMailS_nn xs; simp only [cnMailS]; omega
theorem cnMailS_les : ∀ xs : List GMail, cnMailS xs ≤ 20 * ((zsMailS xs).sum : Int)
 | [] => by simp [cnMailS, zsMailS]
 | x :: xs => by
  have h1 := ceMail_les x; have h2 := cnMailS_les xs
  simp only [cnMailS, zsMailS, List.length_cons, List.flatMap_cons, List.sum_cons, List.sum_append] at *
  omega
theorem cnMailS_ge : ∀ xs : List GMail, (List.length xs : Int) ≤ cnMailS xs
 | [] => by simp [cnMailS]
 | x :: xs => by have h1 := ceMail_ge x; have h2 := cnMailS_ge xs; simp only [cnMailS, List.length_cons]; omega
theorem cnMailS_app : ∀ (xs ys : List GMail), cnMailS (xs ++ ys) = cnMailS xs + cnMailS ys
 | [], ys => by simp [cnMailS]
 | x :: xs, ys => by simp only [List.cons_append, cnMailS, cnMailS_app xs ys]; omega
theorem cnMailS_one (x : GMail) : cnMailS [x] = ceMail x := by simp [cnMailS, ceMail]
theorem mkMailS_len : ∀ (xs : List GMail) (k : Int), (mkMailS k xs).length = xs.length
 | [], _ => rfl
 | x :: xs, k => by simp [mkMailS, mkMailS_len xs]
theorem mkMailS_app : ∀ (xs ys : List GMail) (k : Int), mkMailS k (xs ++ ys) = mkMailS k xs ++ mkMailS (k + cnMailS xs) ys
 | [], ys, k => by simp [mkMailS, cnMailS]
 | x :: xs, ys, k => by
  simp only [List.cons_append, mkMailS, mkMailS_app xs ys, cnMailS]
  congr 3
  omega
theorem mkMailS_at {xs : List GMail} {i : Nat} {x : GMail} (k : Int) (h : xs[i]? = some x) : mkMailS k (xs.take (i + 1)) = mkMailS k (xs.take i) ++ [meMail (k + cnMailS (xs.take i)) x] := by
 rw [List.take_add_one, h, Option.toList_some, mkMailS_app]; rfl
theorem mkMailS_get : ∀ {xs : List GMail} {i : Nat} {x : GMail} (k : Int) (h : xs[i]? = some x), (mkMailS k xs)[i]? = some (meMail (k + cnMailS (xs.take i)) x)
 | y :: xs, 0, x, k, h => by
  simp only [List.getElem?_cons_zero, Option.some.injEq] at h; subst h; simp [mkMailS, cnMailS, meMail]
 | y :: xs, i + 1, x, k, h => by
  have := mkMailS_get (k + ceMail y) (xs := xs) (i := i) (x := x) (by simpa using h)
  simp only [mkMailS, List.getElem?_cons_succ, List.take_succ_cons]
  have e := cnMailS_app [y] (xs.take i); have e2 := cnMailS_one y
  simp only [List.singleton_append] at e
  rw [e, e2, ← Int.add_assoc]; exact this
theorem cnMailS_at {xs : List GMail} {i : Nat} {x : GMail} (h : xs[i]? = some x) : cnMailS (xs.take (i + 1)) = cnMailS (xs.take i) + ceMail x := by
 rw [List.take_add_one, h, Option.toList_some, cnMailS_app, cnMailS_one]
theorem cnMailS_le (xs : List GMail) (i : Nat) : cnMailS (xs.take i) ≤ cnMailS xs := by
 have h := cnMailS_app (xs.take i) (xs.drop i)
 rw [List.take_append_drop] at h
 have := cnMailS_nn (xs.drop i); omega
def ceBox (x : GBox) : Int := 1 + 1 + 1 + 1 + cnMailS x.Mails
def meBox (k : Int) (x : GBox) : GBox := ⟨(k), mt (k + 1), mt (k + 1 + 1), (k + 1 + 1 + 1), mkMailS (k + 1 + 1 + 1 + 1) x.Mails⟩
def cnBoxS : List GBox → Int
 | [] => 0
 | x :: xs => ceBox x + cnBoxS xs
def mkBoxS : Int → List GBox → List GBox
 | _, [] => []
 | k, x :: xs => meBox k x :: mkBoxS (k + ceBox x) xs
theorem ceBox_nn (x : GBox) : 0 ≤ ceBox x := by
 unfold ceBox
 have h4 := cnMailS_nn x.Mails
 omega
theorem ceBox_ge (x : GBox) : 1 ≤ ceBox x := by
 unfold ceBox
 have h4 := cnMailS_nn x.Mails
 omega
theorem cnBoxS_nn : ∀ xs : List GBox, 0 ≤ cnBoxS xs
 | [] => by simp [cnBoxS]
 | x :: xs => by have h1 := ceBox_nn x; have h2 := cnBoxS_nn xs; simp only [cnBoxS]; omega
theorem cnBoxS_ge : ∀ xs : List GBox, (List.length xs : Int) ≤ cnBoxS xs
 | [] => by simp [cnBoxS]
 | x :: xs => by have h1 := ceBox_ge x; have h2 := cnBoxS_ge xs; simp only [cnBoxS, List.length_cons]; omega
theorem cnBoxS_app : ∀ (xs ys : List GBox), cnBoxS (xs ++ ys) = cnBoxS xs + cnBoxS ys
 | [], ys => by simp [cnBoxS]
 | x :: xs, ys => by simp only [List.cons_append, cnBoxS, cnBoxS_app xs ys]; omega
theorem cnBoxS_one (x : GBox) : cnBoxS [x] = ceBox x := by simp [cnBoxS, ceBox]
theorem mkBoxS_len : ∀ (xs : List GBox) (k : Int), (mkBoxS k xs).length = xs.length
 | [], _ => rfl
 | x :: xs, k => by simp [mkBoxS, mkBoxS_len xs]
theorem mkBoxS_app : ∀ (xs ys : List GBox) (k : Int), mkBoxS k (xs ++ ys) = mkBoxS k xs ++ mkBoxS (k + cnBoxS xs) ys
 | [], ys, k => by simp [mkBoxS, cnBoxS]
 | x :: xs, ys, k => by
  simp only [List.cons_append, mkBoxS, mkBoxS_app xs ys, cnBoxS]
  congr 3
  omega
theorem mkBoxS_at {xs : List GBox} {i : Nat} {x : GBox} (k : Int) (h : xs[i]? = some x) : mkBoxS k (xs.take (i + 1)) = mkBoxS k (xs.take i) ++ [meBox (k + cnBoxS (xs.take i)) x] := by
 rw [List.take_add_one, h, Option.toList_some, mkBoxS_app]; rfl
theorem mkBoxS_get : ∀ {xs : List GBox} {i : Nat} {x : GBox} (k : Int) (h : xs[i]? = some x), (mkBoxS k xs)[i]? = some (meBox (k + cnBoxS (xs.take i)) x)
 | y :: xs, 0, x, k, h => by
  simp only [List.getElem?_cons_zero, Option.some.injEq] at h; subst h; simp [mkBoxS, cnBoxS, meBox]
 | y :: xs, i + 1, x, k, h => by
  have := mkBoxS_get (k + ceBox y) (xs := xs) (i := i) (x := x) (by simpa using h)
  simp only [mkBoxS, List.getElem?_cons_succ, List.take_succ_cons]
  have e := cnBoxS_app [y] (xs.take i); have e2 := cnBoxS_one y
  simp only [List.singleton_append] at e
  rw [e, e2, ← Int.add_assoc]; exact this
theorem cnBoxS_at {xs : List GBox} {i : Nat} {x : GBox} (h : xs[i]? = some x) : cnBoxS (xs.take (i + 1)) = cnBoxS (xs.take i) + ceBox x := by
 rw [List.take_add_one, h, Option.toList_some, cnBoxS_app, cnBoxS_one]
theorem cnBoxS_le (xs : List GBox) (i : Nat) : cnBoxS (xs.take i) ≤ cnBoxS xs := by
 have h := cnBoxS_app (xs.take i) (xs.drop i)
 rw [List.take_append_drop] at h
 have := cnBoxS_nn (xs.drop i); omega
def ceWrite (x : GWrite) : Int := 1 + 1
def meWrite (k : Int) (x : GWrite) : GWrite := ⟨(k), mt (k + 1)⟩
def cnWriteS : List GWrite → Int
 | [] => 0
 | x :: xs => ceWrite x + cnWriteS xs
def mkWriteS : Int → List GWrite → List GWrite
 | _, [] => []
 | k, x :: xs => meWrite k x :: mkWriteS (k + ceWrite x) xs
theorem ceWrite_nn (x : GWrite) : 0 ≤ ceWrite x := by
 unfold ceWrite
 omega
theorem ceWrite_les (x : GWrite) : ceWrite x ≤ 20 * (1 + ((zsWrite x).sum : Int)) := by
 simp only [ceWrite, zsWrite, List.sum_append, List.sum_cons, List.sum_nil]
 omega
theorem ceWrite_ge (x : GWrite) : 1 ≤ ceWrite x := by
 unfold ceWrite
 omega
theorem cnWriteS_nn : ∀ xs : List GWrite, 0 ≤ cnWriteS xs
 | [] => by simp [cnWriteS]
 | x :: xs => by have h1 := ceWrite_nn x; have h2 := cnWriteS_nn xs; simp only [cnWriteS]; omega
theorem cnWriteS_les : ∀ xs : List GWrite, cnWriteS xs ≤ 20 * ((zsWriteS xs).sum : Int)
 | [] => by simp [cnWriteS, zsWriteS]
 | x :: xs => by
  have h1 := ceWrite_les x; have h2 := cnWriteS_les xs
  simp only [cnWriteS, zsWriteS, List.length_cons, List.flatMap_cons, List.sum_cons, List.sum_append] at *
  omega
theorem cnWriteS_ge : ∀ xs : List GWrite, (List.length xs : Int) ≤ cnWriteS xs
 | [] => by simp [cnWriteS]
 | x :: xs => by have h1 := ceWrite_ge x; have h2 := cnWriteS_ge xs; simp only [cnWriteS, List.length_cons]; omega
theorem cnWriteS_app : ∀ (xs ys : List GWrite), cnWriteS (xs ++ ys) = cnWriteS xs + cnWriteS ys
 | [], ys => by simp [cnWriteS]
 | x :: xs, ys => by simp only [List.cons_append, cnWriteS, cnWriteS_app xs ys]; omega
theorem cnWriteS_one (x : GWrite) : cnWriteS [x] = ceWrite x := by simp [cnWriteS, ceWrite]
theorem mkWriteS_len : ∀ (xs : List GWrite) (k : Int), (mkWriteS k xs).length = xs.length
 | [], _ => rfl
 | x :: xs, k => by simp [mkWriteS, mkWriteS_len xs]
theorem mkWriteS_app : ∀ (xs ys : List GWrite) (k : Int), mkWriteS k (xs ++ ys) = mkWriteS k xs ++ mkWriteS (k + cnWriteS xs) ys
 | [], ys, k => by simp [mkWriteS, cnWriteS]
 | x :: xs, ys, k => by
  simp only [List.cons_append, mkWriteS, mkWriteS_app xs ys, cnWriteS]
  congr 3
  omega
theorem mkWriteS_at {xs : List GWrite} {i : Nat} {x : GWrite} (k : Int) (h : xs[i]? = some x) : mkWriteS k (xs.take (i + 1)) = mkWriteS k (xs.take i) ++ [meWrite (k + cnWriteS (xs.take i)) x] := by
 rw [List.take_add_one, h, Option.toList_some, mkWriteS_app]; rfl
theorem cnWriteS_at {xs : List GWrite} {i : Nat} {x : GWrite} (h : xs[i]? = some x) : cnWriteS (xs.take (i + 1)) = cnWriteS (xs.take i) + ceWrite x := by
 rw [List.take_add_one, h, Option.toList_some, cnWriteS_app, cnWriteS_one]
theorem cnWriteS_le (xs : List GWrite) (i : Nat) : cnWriteS (xs.take i) ≤ cnWriteS xs := by
 have h := cnWriteS_app (xs.take i) (xs.drop i)
 rw [List.take_append_drop] at h
 have := cnWriteS_nn (xs.drop i); omega
def cnDisk (x : GDisk) : Int := cnStringS x.Sectors + cnWriteS x.Cache
def mkDisk (k : Int) (x : GDisk) : GDisk := ⟨mkStringS (k) x.Sectors, mkWriteS (k + cnStringS x.Sectors) x.Cache⟩
def ceItem (x : GItem) : Int := 1 + 1 + 1 + 1 + 1 + 1 + 1 + 1 + 1
def meItem (k : Int) (x : GItem) : GItem := ⟨(k), ⟨(k + 1), (k + 1 + 1), (k + 1 + 1 + 1), (k + 1 + 1 + 1 + 1), (k + 1 + 1 + 1 + 1 + 1), mt (k + 1 + 1 + 1 + 1 + 1 + 1), mt (k + 1 + 1 + 1 + 1 + 1 + 1 + 1), mt (k + 1 + 1 + 1 + 1 + 1 + 1 + 1 + 1)⟩⟩
def cnItemS : List GItem → Int
 | [] => 0
 | x :: xs => ceItem x + cnItemS xs
def mkItemS : Int → List GItem → List GItem
 | _, [] => []
 | k, x :: xs => meItem k x :: mkItemS (k + ceItem x) xs
theorem ceItem_nn (x : GItem) : 0 ≤ ceItem x := by
 unfold ceItem
 omega
theorem ceItem_les (x : GItem) : ceItem x ≤ 20 * (1 + ((zsItem x).sum : Int)) := by
 simp only [ceItem, zsItem, zsRec, List.sum_append, List.sum_cons, List.sum_nil]
 omega
theorem ceItem_ge (x : GItem) : 1 ≤ ceItem x := by
 unfold ceItem
 omega
theorem cnItemS_nn : ∀ xs : List GItem, 0 ≤ cnItemS xs
 | [] => by simp [cnItemS]
 | x :: xs => by have h1 := ceItem_nn x; have h2 := cnItemS_nn xs; simp only [cnItemS]; omega
theorem cnItemS_les : ∀ xs : List GItem, cnItemS xs ≤ 20 * ((zsItemS xs).sum : Int)
 | [] => by simp [cnItemS, zsItemS]
 | x :: xs => by
  have h1 := ceItem_les x; have h2 := cnItemS_les xs
  simp only [cnItemS, zsItemS, List.length_cons, List.flatMap_cons, List.sum_cons, List.sum_append] at *
  omega
theorem cnItemS_ge : ∀ xs : List GItem, (List.length xs : Int) ≤ cnItemS xs
 | [] => by simp [cnItemS]
 | x :: xs => by have h1 := ceItem_ge x; have h2 := cnItemS_ge xs; simp only [cnItemS, List.length_cons]; omega
theorem cnItemS_app : ∀ (xs ys : List GItem), cnItemS (xs ++ ys) = cnItemS xs + cnItemS ys
 | [], ys => by simp [cnItemS]
 | x :: xs, ys => by simp only [List.cons_append, cnItemS, cnItemS_app xs ys]; omega
theorem cnItemS_one (x : GItem) : cnItemS [x] = ceItem x := by simp [cnItemS, ceItem]
theorem mkItemS_len : ∀ (xs : List GItem) (k : Int), (mkItemS k xs).length = xs.length
 | [], _ => rfl
 | x :: xs, k => by simp [mkItemS, mkItemS_len xs]
theorem mkItemS_app : ∀ (xs ys : List GItem) (k : Int), mkItemS k (xs ++ ys) = mkItemS k xs ++ mkItemS (k + cnItemS xs) ys
 | [], ys, k => by simp [mkItemS, cnItemS]
 | x :: xs, ys, k => by
  simp only [List.cons_append, mkItemS, mkItemS_app xs ys, cnItemS]
  congr 3
  omega
theorem mkItemS_at {xs : List GItem} {i : Nat} {x : GItem} (k : Int) (h : xs[i]? = some x) : mkItemS k (xs.take (i + 1)) = mkItemS k (xs.take i) ++ [meItem (k + cnItemS (xs.take i)) x] := by
 rw [List.take_add_one, h, Option.toList_some, mkItemS_app]; rfl
theorem cnItemS_at {xs : List GItem} {i : Nat} {x : GItem} (h : xs[i]? = some x) : cnItemS (xs.take (i + 1)) = cnItemS (xs.take i) + ceItem x := by
 rw [List.take_add_one, h, Option.toList_some, cnItemS_app, cnItemS_one]
theorem cnItemS_le (xs : List GItem) (i : Nat) : cnItemS (xs.take i) ≤ cnItemS xs := by
 have h := cnItemS_app (xs.take i) (xs.drop i)
 rw [List.take_append_drop] at h
 have := cnItemS_nn (xs.drop i); omega
def ceSeg (x : GSeg) : Int := 1 + 1 + 1 + cnItemS x.Items
def meSeg (k : Int) (x : GSeg) : GSeg := ⟨(k), (k + 1), (k + 1 + 1), mkItemS (k + 1 + 1 + 1) x.Items⟩
def cnSegS : List GSeg → Int
 | [] => 0
 | x :: xs => ceSeg x + cnSegS xs
def mkSegS : Int → List GSeg → List GSeg
 | _, [] => []
 | k, x :: xs => meSeg k x :: mkSegS (k + ceSeg x) xs
theorem ceSeg_nn (x : GSeg) : 0 ≤ ceSeg x := by
 unfold ceSeg
 have h3 := cnItemS_nn x.Items
 omega
theorem ceSeg_les (x : GSeg) : ceSeg x ≤ 20 * (1 + ((zsSeg x).sum : Int)) := by
 have h3 := cnItemS_les x.Items
 simp only [ceSeg, zsSeg, List.sum_append, List.sum_cons, List.sum_nil]
 omega
theorem ceSeg_ge (x : GSeg) : 1 ≤ ceSeg x := by
 unfold ceSeg
 have h3 := cnItemS_nn x.Items
 omega
theorem cnSegS_nn : ∀ xs : List GSeg, 0 ≤ cnSegS xs
 | [] => by simp [cnSegS]
 | x :: xs => by have h1 := ceSeg_nn x; have h2 := cnSegS_nn xs; simp only [cnSegS]; omega
theorem cnSegS_les : ∀ xs : List GSeg, cnSegS xs ≤ 20 * ((zsSegS xs).sum : Int)
 | [] => by simp [cnSegS, zsSegS]
 | x :: xs => by
  have h1 := ceSeg_les x; have h2 := cnSegS_les xs
  simp only [cnSegS, zsSegS, List.length_cons, List.flatMap_cons, List.sum_cons, List.sum_append] at *
  omega
theorem cnSegS_ge : ∀ xs : List GSeg, (List.length xs : Int) ≤ cnSegS xs
 | [] => by simp [cnSegS]
 | x :: xs => by have h1 := ceSeg_ge x; have h2 := cnSegS_ge xs; simp only [cnSegS, List.length_cons]; omega
theorem cnSegS_app : ∀ (xs ys : List GSeg), cnSegS (xs ++ ys) = cnSegS xs + cnSegS ys
 | [], ys => by simp [cnSegS]
 | x :: xs, ys => by simp only [List.cons_append, cnSegS, cnSegS_app xs ys]; omega
theorem cnSegS_one (x : GSeg) : cnSegS [x] = ceSeg x := by simp [cnSegS, ceSeg]
theorem mkSegS_len : ∀ (xs : List GSeg) (k : Int), (mkSegS k xs).length = xs.length
 | [], _ => rfl
 | x :: xs, k => by simp [mkSegS, mkSegS_len xs]
theorem mkSegS_app : ∀ (xs ys : List GSeg) (k : Int), mkSegS k (xs ++ ys) = mkSegS k xs ++ mkSegS (k + cnSegS xs) ys
 | [], ys, k => by simp [mkSegS, cnSegS]
 | x :: xs, ys, k => by
  simp only [List.cons_append, mkSegS, mkSegS_app xs ys, cnSegS]
  congr 3
  omega
theorem mkSegS_at {xs : List GSeg} {i : Nat} {x : GSeg} (k : Int) (h : xs[i]? = some x) : mkSegS k (xs.take (i + 1)) = mkSegS k (xs.take i) ++ [meSeg (k + cnSegS (xs.take i)) x] := by
 rw [List.take_add_one, h, Option.toList_some, mkSegS_app]; rfl
theorem cnSegS_at {xs : List GSeg} {i : Nat} {x : GSeg} (h : xs[i]? = some x) : cnSegS (xs.take (i + 1)) = cnSegS (xs.take i) + ceSeg x := by
 rw [List.take_add_one, h, Option.toList_some, cnSegS_app, cnSegS_one]
theorem cnSegS_le (xs : List GSeg) (i : Nat) : cnSegS (xs.take i) ≤ cnSegS xs := by
 have h := cnSegS_app (xs.take i) (xs.drop i)
 rw [List.take_append_drop] at h
 have := cnSegS_nn (xs.drop i); omega
def cnLog (x : GLog) : Int := cnStringS x.Disk.Sectors + cnWriteS x.Disk.Cache + cnSegS x.Used
def mkLog (k : Int) (x : GLog) : GLog := ⟨⟨mkStringS (k) x.Disk.Sectors, mkWriteS (k + cnStringS x.Disk.Sectors) x.Disk.Cache⟩, x.Segs, mkSegS (k + cnStringS x.Disk.Sectors + cnWriteS x.Disk.Cache) x.Used, x.NextGen, x.NextSeq, x.Stamp, x.NextValid⟩
def cnState (x : GState) : Int := cnBoxS x.Boxes
def mkState (k : Int) (x : GState) : GState := ⟨mkBoxS (k) x.Boxes⟩
def ceSession (x : GSession) : Int := 1 + 1 + 1 + 1 + 1 + 1 + cnStringS x.Bring.To + cnStringS x.Bring.Data + 1 + 1 + cnMailS x.Fetch.Mails + cnBoolS x.Fetch.Gone + 1 + 1 + 1 + 1 + cnIntS x.Look.Uids
def meSession (k : Int) (x : GSession) : GSession := ⟨(k), mt (k + 1), mt (k + 1 + 1), mb (k + 1 + 1 + 1), ⟨(k + 1 + 1 + 1 + 1), mt (k + 1 + 1 + 1 + 1 + 1), mkStringS (k + 1 + 1 + 1 + 1 + 1 + 1) x.Bring.To, mkStringS (k + 1 + 1 + 1 + 1 + 1 + 1 + cnStringS x.Bring.To) x.Bring.Data⟩, ⟨(k + 1 + 1 + 1 + 1 + 1 + 1 + cnStringS x.Bring.To + cnStringS x.Bring.Data), mt (k + 1 + 1 + 1 + 1 + 1 + 1 + cnStringS x.Bring.To + cnStringS x.Bring.Data + 1), mkMailS (k + 1 + 1 + 1 + 1 + 1 + 1 + cnStringS x.Bring.To + cnStringS x.Bring.Data + 1 + 1) x.Fetch.Mails, mkBoolS (k + 1 + 1 + 1 + 1 + 1 + 1 + cnStringS x.Bring.To + cnStringS x.Bring.Data + 1 + 1 + cnMailS x.Fetch.Mails) x.Fetch.Gone⟩, ⟨(k + 1 + 1 + 1 + 1 + 1 + 1 + cnStringS x.Bring.To + cnStringS x.Bring.Data + 1 + 1 + cnMailS x.Fetch.Mails + cnBoolS x.Fetch.Gone), mt (k + 1 + 1 + 1 + 1 + 1 + 1 + cnStringS x.Bring.To + cnStringS x.Bring.Data + 1 + 1 + cnMailS x.Fetch.Mails + cnBoolS x.Fetch.Gone + 1), mt (k + 1 + 1 + 1 + 1 + 1 + 1 + cnStringS x.Bring.To + cnStringS x.Bring.Data + 1 + 1 + cnMailS x.Fetch.Mails + cnBoolS x.Fetch.Gone + 1 + 1), (k + 1 + 1 + 1 + 1 + 1 + 1 + cnStringS x.Bring.To + cnStringS x.Bring.Data + 1 + 1 + cnMailS x.Fetch.Mails + cnBoolS x.Fetch.Gone + 1 + 1 + 1), mkIntS (k + 1 + 1 + 1 + 1 + 1 + 1 + cnStringS x.Bring.To + cnStringS x.Bring.Data + 1 + 1 + cnMailS x.Fetch.Mails + cnBoolS x.Fetch.Gone + 1 + 1 + 1 + 1) x.Look.Uids⟩⟩
def cnSessionS : List GSession → Int
 | [] => 0
 | x :: xs => ceSession x + cnSessionS xs
def mkSessionS : Int → List GSession → List GSession
 | _, [] => []
 | k, x :: xs => meSession k x :: mkSessionS (k + ceSession x) xs
theorem ceSession_nn (x : GSession) : 0 ≤ ceSession x := by
 unfold ceSession
 have h6 := cnStringS_nn x.Bring.To
 have h7 := cnStringS_nn x.Bring.Data
 have h10 := cnMailS_nn x.Fetch.Mails
 have h11 := cnBoolS_nn x.Fetch.Gone
 have h16 := cnIntS_nn x.Look.Uids
 omega
theorem ceSession_les (x : GSession) : ceSession x ≤ 20 * (1 + ((zsSession x).sum : Int)) := by
 have h6 := cnStringS_les x.Bring.To
 have h7 := cnStringS_les x.Bring.Data
 have h10 := cnMailS_les x.Fetch.Mails
 have h11 := cnBoolS_les x.Fetch.Gone
 have h16 := cnIntS_les x.Look.Uids
 simp only [ceSession, zsSession, zsBring, zsFetch, zsLook, List.sum_append, List.sum_cons, List.sum_nil]
 omega
theorem ceSession_ge (x : GSession) : 1 ≤ ceSession x := by
 unfold ceSession
 have h6 := cnStringS_nn x.Bring.To
 have h7 := cnStringS_nn x.Bring.Data
 have h10 := cnMailS_nn x.Fetch.Mails
 have h11 := cnBoolS_nn x.Fetch.Gone
 have h16 := cnIntS_nn x.Look.Uids
 omega
theorem cnSessionS_nn : ∀ xs : List GSession, 0 ≤ cnSessionS xs
 | [] => by simp [cnSessionS]
 | x :: xs => by have h1 := ceSession_nn x; have h2 := cnSessionS_nn xs; simp only [cnSessionS]; omega
theorem cnSessionS_les : ∀ xs : List GSession, cnSessionS xs ≤ 20 * ((zsSessionS xs).sum : Int)
 | [] => by simp [cnSessionS, zsSessionS]
 | x :: xs => by
  have h1 := ceSession_les x; have h2 := cnSessionS_les xs
  simp only [cnSessionS, zsSessionS, List.length_cons, List.flatMap_cons, List.sum_cons, List.sum_append] at *
  omega
theorem cnSessionS_ge : ∀ xs : List GSession, (List.length xs : Int) ≤ cnSessionS xs
 | [] => by simp [cnSessionS]
 | x :: xs => by have h1 := ceSession_ge x; have h2 := cnSessionS_ge xs; simp only [cnSessionS, List.length_cons]; omega
theorem cnSessionS_app : ∀ (xs ys : List GSession), cnSessionS (xs ++ ys) = cnSessionS xs + cnSessionS ys
 | [], ys => by simp [cnSessionS]
 | x :: xs, ys => by simp only [List.cons_append, cnSessionS, cnSessionS_app xs ys]; omega
theorem cnSessionS_one (x : GSession) : cnSessionS [x] = ceSession x := by simp [cnSessionS, ceSession]
theorem mkSessionS_len : ∀ (xs : List GSession) (k : Int), (mkSessionS k xs).length = xs.length
 | [], _ => rfl
 | x :: xs, k => by simp [mkSessionS, mkSessionS_len xs]
theorem mkSessionS_app : ∀ (xs ys : List GSession) (k : Int), mkSessionS k (xs ++ ys) = mkSessionS k xs ++ mkSessionS (k + cnSessionS xs) ys
 | [], ys, k => by simp [mkSessionS, cnSessionS]
 | x :: xs, ys, k => by
  simp only [List.cons_append, mkSessionS, mkSessionS_app xs ys, cnSessionS]
  congr 3
  omega
theorem mkSessionS_at {xs : List GSession} {i : Nat} {x : GSession} (k : Int) (h : xs[i]? = some x) : mkSessionS k (xs.take (i + 1)) = mkSessionS k (xs.take i) ++ [meSession (k + cnSessionS (xs.take i)) x] := by
 rw [List.take_add_one, h, Option.toList_some, mkSessionS_app]; rfl
theorem mkSessionS_get : ∀ {xs : List GSession} {i : Nat} {x : GSession} (k : Int) (h : xs[i]? = some x), (mkSessionS k xs)[i]? = some (meSession (k + cnSessionS (xs.take i)) x)
 | y :: xs, 0, x, k, h => by
  simp only [List.getElem?_cons_zero, Option.some.injEq] at h; subst h; simp [mkSessionS, cnSessionS, meSession]
 | y :: xs, i + 1, x, k, h => by
  have := mkSessionS_get (k + ceSession y) (xs := xs) (i := i) (x := x) (by simpa using h)
  simp only [mkSessionS, List.getElem?_cons_succ, List.take_succ_cons]
  have e := cnSessionS_app [y] (xs.take i); have e2 := cnSessionS_one y
  simp only [List.singleton_append] at e
  rw [e, e2, ← Int.add_assoc]; exact this
theorem cnSessionS_at {xs : List GSession} {i : Nat} {x : GSession} (h : xs[i]? = some x) : cnSessionS (xs.take (i + 1)) = cnSessionS (xs.take i) + ceSession x := by
 rw [List.take_add_one, h, Option.toList_some, cnSessionS_app, cnSessionS_one]
theorem cnSessionS_le (xs : List GSession) (i : Nat) : cnSessionS (xs.take i) ≤ cnSessionS xs := by
 have h := cnSessionS_app (xs.take i) (xs.drop i)
 rw [List.take_append_drop] at h
 have := cnSessionS_nn (xs.drop i); omega
def cnPlain (x : GPlain) : Int := cnBoxS x.State.Boxes + cnSessionS x.Sessions
def mkPlain (k : Int) (x : GPlain) : GPlain := ⟨⟨mkBoxS (k) x.State.Boxes⟩, x.NextValid, mkSessionS (k + cnBoxS x.State.Boxes) x.Sessions⟩
def cnStore (x : GStore) : Int := cnStringS x.Log.Disk.Sectors + cnWriteS x.Log.Disk.Cache + cnSegS x.Log.Used + cnIntS x.Freed
def mkStore (k : Int) (x : GStore) : GStore := ⟨⟨⟨mkStringS (k) x.Log.Disk.Sectors, mkWriteS (k + cnStringS x.Log.Disk.Sectors) x.Log.Disk.Cache⟩, x.Log.Segs, mkSegS (k + cnStringS x.Log.Disk.Sectors + cnWriteS x.Log.Disk.Cache) x.Log.Used, x.Log.NextGen, x.Log.NextSeq, x.Log.Stamp, x.Log.NextValid⟩, mkIntS (k + cnStringS x.Log.Disk.Sectors + cnWriteS x.Log.Disk.Cache + cnSegS x.Log.Used) x.Freed⟩
def cnServer (x : GServer) : Int := cnStringS x.Store.Log.Disk.Sectors + cnWriteS x.Store.Log.Disk.Cache + cnSegS x.Store.Log.Used + cnIntS x.Store.Freed + cnSessionS x.Sessions
def mkServer (k : Int) (x : GServer) : GServer := ⟨⟨⟨⟨mkStringS (k) x.Store.Log.Disk.Sectors, mkWriteS (k + cnStringS x.Store.Log.Disk.Sectors) x.Store.Log.Disk.Cache⟩, x.Store.Log.Segs, mkSegS (k + cnStringS x.Store.Log.Disk.Sectors + cnWriteS x.Store.Log.Disk.Cache) x.Store.Log.Used, x.Store.Log.NextGen, x.Store.Log.NextSeq, x.Store.Log.Stamp, x.Store.Log.NextValid⟩, mkIntS (k + cnStringS x.Store.Log.Disk.Sectors + cnWriteS x.Store.Log.Disk.Cache + cnSegS x.Store.Log.Used) x.Store.Freed⟩, mkSessionS (k + cnStringS x.Store.Log.Disk.Sectors + cnWriteS x.Store.Log.Disk.Cache + cnSegS x.Store.Log.Used + cnIntS x.Store.Freed) x.Sessions⟩
theorem cnServer_les (x : GServer) : cnServer x ≤ 20 * ((zsServer x).sum : Int) := by
 have h0 := cnStringS_les x.Store.Log.Disk.Sectors
 have h1 := cnWriteS_les x.Store.Log.Disk.Cache
 have h3 := cnSegS_les x.Store.Log.Used
 have h8 := cnIntS_les x.Store.Freed
 have h9 := cnSessionS_les x.Sessions
 simp only [cnServer, zsServer, zsStore, zsLog, zsDisk, List.sum_append, List.sum_cons, List.sum_nil]
 omega
end Go.Av
