/- What is left of a budget; lists as rows. -/
import Derived.Test.YtjbokkoiicoahaaGreatAvq2
namespace Go.Av
open Go Go.RowKit
set_option linter.unusedVariables false
set_option linter.unusedSimpArgs false
def chain : Int → List Nat → Int
 | n, [] => n
 | n, k :: l => if n - k < 0 then -1 else chain (n - k) l
theorem chain_ge : ∀ (l : List Nat) (n : Int), -1 ≤ n → -1 ≤ chain n l
 | [], n, h => h
 | k :: l, n, h => by
  unfold chain
  split
  ·omega
  exact chain_ge l _ (by omega)
theorem chain_le : ∀ (l : List Nat) (n : Int), -1 ≤ n → chain n l ≤ n
 | [], n, h => Int.le_refl _
 | k :: l, n, h => by
  unfold chain
  split
  ·omega
  have := chain_le l (n - k) (by omega)
  omega
theorem chain_cons (n : Int) (k : Nat) (l : List Nat) : chain n (k :: l) = if n - k < 0 then -1 else chain (n - k) l := rfl
theorem chain_app : ∀ (a b : List Nat) (n : Int), 0 ≤ chain n a → chain n (a ++ b) = chain (chain n a) b
 | [], b, n, h => rfl
 | k :: a, b, n, h => by
  by_cases h1 : n - k < 0
  ·rw [chain_cons, if_pos h1] at h; omega
  rw [chain_cons, if_neg h1] at h
  rw [List.cons_append, chain_cons, if_neg h1, chain_cons, if_neg h1]
  exact chain_app a b _ h
theorem chain_neg : ∀ (a b : List Nat) (n : Int), 0 ≤ n → chain n a < 0 → chain n (a ++ b) = -1
 | [], b, n, h0, h => by unfold chain at h; omega
 | k :: a, b, n, h0, h => by
  rw [List.cons_append]
  unfold chain at h ⊢
  split
  ·rfl
  rename_i h1
  rw [if_neg h1] at h
  exact chain_neg a b _ (by omega) h
theorem chain_all : ∀ (l : List Nat) (n : Int), 0 ≤ chain n l → ∀ k ∈ l, (k : Int) ≤ n
 | [], n, h, k, hk => by simp at hk
 | j :: l, n, h, k, hk => by
  unfold chain at h
  split at h
  ·omega
  rename_i h1
  simp only [List.mem_cons] at hk
  rcases hk with rfl | hk
  ·omega
  have := chain_all l _ h k hk
  omega
theorem take_flat {α β : Type} (f : α → List β) (xs : List α) {i : Nat} {x : α} (h : xs[i]? = some x) : (xs.take (i + 1)).flatMap f = (xs.take i).flatMap f ++ f x := by
 rw [List.take_add_one, h]
 simp
theorem flat_split {α β : Type} (f : α → List β) (xs : List α) (i : Nat) : xs.flatMap f = (xs.take i).flatMap f ++ (xs.drop i).flatMap f := by
 rw [← List.flatMap_append, List.take_append_drop]
theorem map_at {α : Type} (f : α → List PV) {xs : List α} {ra : List (List PV)} (h : ra = xs.map f) {i : Nat} {x : α} (hx : xs[i]? = some x) : ra[i]? = some (f x) := by
 rw [h]; simp [hx]
theorem eraseR_map {α : Type} (f g : α → List PV) (h : ∀ x, eraseL (f x) = g x) : ∀ xs : List α, eraseR (xs.map f) = xs.map g
 | [] => rfl
 | x :: xs => by
  show eraseL (f x) :: eraseR (xs.map f) = g x :: xs.map g
  rw [h, eraseR_map f g h xs]
theorem rows_of {α : Type} {s : Sh} (f : α → List PV) (p : α → Prop) (h : ∀ r, s.Is r → ∃ x, r = f x ∧ p x) : ∀ rows : List (List PV), (∀ r ∈ rows, s.Is r) → ∃ xs : List α, rows = xs.map f ∧ ∀ x ∈ xs, p x
 | [], _ => ⟨[], rfl, fun x hx => by simp at hx⟩
 | r :: rows, hr => by
  obtain ⟨x, rfl, hp⟩ := h r (hr r (by simp))
  obtain ⟨xs, rfl, hps⟩ := rows_of f p h rows fun r' hr' => hr r' (by simp [hr'])
  exact ⟨x :: xs, rfl, fun y hy => by
   simp only [List.mem_cons] at hy
   rcases hy with rfl | hy
   ·exact hp
   exact hps y hy⟩
end Go.Av
