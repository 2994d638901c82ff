/- Definitions. -/
import Derived.Test.YtjbokkoiicoahaaGreatTy
namespace Go.Av
open Go Go.Proofs
set_option maxRecDepth 100000
set_option maxHeartbeats 4000000
set_option linter.unusedVariables false
set_option linter.unusedSimpArgs false
def inR (n lo hi : Int) : Bool := decide (lo ≤ n) && decide (n ≤ hi)
def wdFrom (s : ByteArray) : Nat → Nat → Bool
 | _, 0 => true
 | i, n + 1 => (!(decide (byteAt s (i : Int) < 97)) && !(decide (122 < byteAt s (i : Int)))) && wdFrom s (i + 1) n
def wdB (s : ByteArray) : Bool := wdFrom s 0 s.size
def wordOk (s : ByteArray) : Bool := inR (s.size : Int) 1 8 && wdB s
def textOk (s : ByteArray) : Bool := decide (s = ByteArray.mk #[]) || wordOk s
theorem wd_step {s : ByteArray} {i : Nat} (h : i < s.size) : wdFrom s i (s.size - i) = ((!(decide (byteAt s (i : Int) < 97)) && !(decide (122 < byteAt s (i : Int)))) && wdFrom s (i + 1) (s.size - (i + 1))) := by
 have e : s.size - i = (s.size - (i + 1)) + 1 := by omega
 rw [e]; rfl
theorem wd_end {s : ByteArray} {i : Nat} (h : s.size ≤ i) : wdFrom s i (s.size - i) = true := by
 have e : s.size - i = 0 := by omega
 rw [e]; rfl
theorem any_at {α : Type} {p : α → Bool} {xs : List α} {i : Nat} {x : α} (h : xs[i]? = some x) : (xs.drop i).any p = (p x || (xs.drop (i + 1)).any p) := by
 obtain ⟨hl, rfl⟩ := List.getElem?_eq_some_iff.1 h
 rw [List.drop_eq_getElem_cons hl]; rfl
theorem all_at {α : Type} {p : α → Bool} {xs : List α} {i : Nat} {x : α} (h : xs[i]? = some x) : (xs.drop i).all p = (p x && (xs.drop (i + 1)).all p) := by
 obtain ⟨hl, rfl⟩ := List.getElem?_eq_some_iff.1 h
 rw [List.drop_eq_getElem_cons hl]; rfl
def memB (v : ByteArray) (xs : List ByteArray) : Bool := xs.any (fun x => decide (x = v))
def ixF {α : Type} (p : α → Bool) : List α → Nat → Int
 | [], _ => -1
 | x :: xs, i => if p x then (i : Int) else ixF p xs (i + 1)
theorem ix_at {α : Type} {p : α → Bool} {xs : List α} {i : Nat} {x : α} (h : xs[i]? = some x) : ixF p (xs.drop i) i = if p x then (i : Int) else ixF p (xs.drop (i + 1)) (i + 1) := by
 obtain ⟨hl, rfl⟩ := List.getElem?_eq_some_iff.1 h
 rw [List.drop_eq_getElem_cons hl]; rfl
theorem ix_end {α : Type} {p : α → Bool} {xs : List α} {i : Nat} (h : xs.length ≤ i) : ixF p (xs.drop i) i = -1 := by
 rw [List.drop_of_length_le h]; rfl
theorem ix_any {α : Type} {p : α → Bool} : ∀ (xs : List α) (i : Nat), decide (0 ≤ ixF p xs i) = xs.any p
 | [], i => rfl
 | x :: xs, i => by
  by_cases hp : p x = true
  · simp [ixF, hp]
  · simpa [ixF, hp] using ix_any xs (i + 1)
theorem ix_any' {A : Alg} (hA : A = std) {α : Type} {p : α → Bool} (xs : List α) : A.cmp .geq (ixF p xs 0) 0 = xs.any p := by
 subst hA; exact ix_any xs 0
def toGo : List ByteArray → List ByteArray → Bool
 | _, [] => true
 | pre, x :: xs => (wordOk x && !(memB x pre)) && toGo (pre ++ [x]) xs
theorem to_at {xs : List ByteArray} {i : Nat} {x : ByteArray} (h : xs[i]? = some x) : toGo (xs.take i) (xs.drop i) = ((wordOk x && !(memB x (xs.take i))) && toGo (xs.take (i + 1)) (xs.drop (i + 1))) := by
 rw [List.take_add_one, h]
 obtain ⟨hl, rfl⟩ := List.getElem?_eq_some_iff.1 h
 rw [List.drop_eq_getElem_cons hl]; rfl
theorem to_end {xs : List ByteArray} {i : Nat} (h : xs.length ≤ i) : toGo (xs.take i) (xs.drop i) = true := by
 rw [List.drop_of_length_le h]; rfl
def incFrom (f : Nat → Int) : Nat → Nat → Bool
 | _, 0 => true
 | i, n + 1 => (decide (i = 0) || !(decide (f i ≤ f (i - 1)))) && incFrom f (i + 1) n
theorem inc_at {f : Nat → Int} {i m : Nat} (h : i < m) : incFrom f i (m - i) = ((decide (i = 0) || !(decide (f i ≤ f (i - 1)))) && incFrom f (i + 1) (m - (i + 1))) := by
 have e : m - i = (m - (i + 1)) + 1 := by omega
 rw [e]; rfl
theorem inc_end {f : Nat → Int} {i m : Nat} (h : m ≤ i) : incFrom f i (m - i) = true := by
 have e : m - i = 0 := by omega
 rw [e]; rfl
theorem inc_1 {f : Nat → Int} (m : Nat) : incFrom f 0 m = incFrom f 1 (m - 1) := by
 cases m with
 | zero => rfl
 | succ n => simp [incFrom]
def fU (xs : List Int) (i : Nat) : Int := (xs[i]?).getD 0
def fM (xs : List GMail) (i : Nat) : Int := ((xs[i]?).map GMail.Uid).getD 0
theorem fU_at {xs : List Int} {i : Nat} {x : Int} (h : xs[i]? = some x) : fU xs i = x := by simp [fU, h]
theorem fM_at {xs : List GMail} {i : Nat} {x : GMail} (h : xs[i]? = some x) : fM xs i = x.Uid := by simp [fM, h]
def lineB (s : ByteArray) : Bool := decide (80 < (s.size : Int))
def bringOk (b : GBring) : Bool := (((inR b.State 0 4 && textOk b.From) && !(decide (3 < (b.To.length : Int)))) && !(decide (101 < (b.Data.length : Int)))) && (toGo [] b.To && !(b.Data.any lineB))
def fetchOk (f : GFetch) : Bool := (((inR f.State 0 2 && textOk f.User) && !(decide (8 < (f.Mails.length : Int)))) && decide ((f.Gone.length : Int) = (f.Mails.length : Int))) && incFrom (fM f.Mails) 0 f.Mails.length
def lookOk (k : GLook) : Bool := ((((inR k.State 0 2 && textOk k.User) && textOk k.Box) && inR k.Valid 0 9999) && !(decide (8 < (k.Uids.length : Int)))) && incFrom (fU k.Uids) 0 k.Uids.length
def sesBad (x : GSession) : Bool := ((!(bringOk x.Bring) || !(fetchOk x.Fetch)) || !(lookOk x.Look)) || decide (400 < (x.In.size : Int))
end Go.Av
