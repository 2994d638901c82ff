/- Sizes and numbers of cells. -/
import Derived.Test.YtjbokkoiicoahaaGreatF1
import Derived.Test.YtjbokkoiicoahaaGreatTm
namespace Go.Av
open Go Go.Proofs
set_option maxRecDepth 100000
set_option maxHeartbeats 4000000
set_option linter.unusedVariables false
set_option linter.unusedSimpArgs false
theorem chain_sum : ∀ {l : List Nat} {n : Int}, 0 ≤ chain n l → (l.sum : Int) ≤ n
  | [], n, h => by simpa [chain] using h
  | k :: l, n, h => by
    rw [chain_cons] at h
    split at h
    · omega
    · have := chain_sum h; simp only [List.sum_cons]; omega
theorem ceS_new (k : Int) : ceSession (sesNew k) ≤ 50 := by
  have h : ∀ (k : Int) (o : ByteArray), ceSession (ses0 k o) ≤ 50 := by intro k o; simp [ceSession, ses0, cnStringS, cnMailS, cnBoolS, cnIntS]
  unfold sesNew; split
  · exact h _ _
  · split
    · exact h _ _
    · split
      · exact h _ _
      · exact h _ _
theorem cnS_open (xs : List GSession) (k : Int) : cnSessionS (openL xs k) ≤ cnSessionS xs + 50 := by
  unfold openL; split
  · have h := ceS_new k
    rw [cnSessionS_app, cnSessionS_one]; omega
  · omega
theorem ce_feed (x : GSession) (t : ByteArray) : ceSession (feedS x t) = ceSession x := by unfold feedS; split <;> rfl
theorem cnS_set : ∀ (xs : List GSession) (n : Nat) (x y : GSession), xs[n]? = some x → ceSession y = ceSession x → cnSessionS (xs.set n y) = cnSessionS xs
  | a :: xs, 0, x, y, h, he => by simp only [List.getElem?_cons_zero, Option.some.injEq] at h; subst h; simp only [List.set_cons_zero, cnSessionS, he]
  | a :: xs, n + 1, x, y, h, he => by simp only [List.set_cons_succ, cnSessionS, cnS_set xs n x y (by simpa using h) he]
theorem cnS_fed (xs : List GSession) (i : Int) (t : ByteArray) : cnSessionS (fedL xs i t) = cnSessionS xs := by
  unfold fedL; split
  · split
    · rename_i x h; exact cnS_set _ _ _ _ h (ce_feed x t)
    · rfl
  · rfl
theorem cnV_ss (s : GStore) (l l2 : List GSession) : cnServer ⟨s, l2⟩ = cnServer ⟨s, l⟩ - cnSessionS l + cnSessionS l2 := by simp only [cnServer]; omega
theorem zsV_ss {s : GStore} {l l2 : List GSession} {N : Int} (h : ∀ k ∈ zsServer ⟨s, l⟩, (k : Int) ≤ N) (h2 : ∀ k ∈ zsSessionS l2, (k : Int) ≤ N) : ∀ k ∈ zsServer ⟨s, l2⟩, (k : Int) ≤ N := by
  intro k hk
  simp only [zsServer, List.mem_append, List.not_mem_nil, or_false] at hk h
  rcases hk with hk | hk
  · exact h k (.inl hk)
  · exact h2 k hk
theorem zs_ses {l : List GSession} {N : Int} (h : ∀ k ∈ zsSessionS l, (k : Int) ≤ N) {x : GSession} (hx : x ∈ l) : ∀ k ∈ zsSession x, (k : Int) ≤ N := fun k hk => h k (List.mem_cons_of_mem _ (List.mem_flatMap.2 ⟨x, hx, hk⟩))
theorem zs_mkS {l : List GSession} {N : Int} (h0 : (l.length : Int) ≤ N) (h : ∀ x ∈ l, ∀ k ∈ zsSession x, (k : Int) ≤ N) : ∀ k ∈ zsSessionS l, (k : Int) ≤ N := by
  intro k hk
  rcases List.mem_cons.1 hk with rfl | hk
  · exact h0
  · obtain ⟨x, hx, hk⟩ := List.mem_flatMap.1 hk; exact h x hx k hk
theorem zs_new (k : Int) : ∀ q ∈ zsSession (sesNew k), (q : Int) ≤ 4611686018427387904 := by
  have h : ∀ (k : Int) (o : ByteArray), o.size ≤ 50 → ∀ q ∈ zsSession (ses0 k o), (q : Int) ≤ 4611686018427387904 := by
    intro k o ho q hq
    have : q ≤ 50 := by
      simp [zsSession, zsBring, zsFetch, zsLook, zsStringS, zsMailS, zsBoolS, zsIntS, ses0] at hq
      rcases hq with rfl | rfl | rfl <;> first | omega | (show (0 : Nat) ≤ 50; omega)
    omega
  unfold sesNew; split
  · exact h _ _ (by decide)
  · split
    · exact h _ _ (by decide)
    · split
      · exact h _ _ (by decide)
      · exact h _ _ (by decide)
theorem zsS_open {xs : List GSession} {k : Int} (h : ∀ q ∈ zsSessionS xs, q ≤ 1048576) : ∀ q ∈ zsSessionS (openL xs k), (q : Int) ≤ 4611686018427387904 := by
  have hl : xs.length ≤ 1048576 := h _ (List.mem_cons_self ..)
  have h' : ∀ q ∈ zsSessionS xs, (q : Int) ≤ 4611686018427387904 := fun q hq => by have := h q hq; omega
  unfold openL; split
  · refine zs_mkS (by simp only [List.length_append, List.length_cons, List.length_nil]; omega) fun x hx => ?_
    rcases List.mem_append.1 hx with hx | hx
    · exact zs_ses h' hx
    · rw [List.mem_singleton.1 hx]; exact zs_new k
  · exact h'
theorem zs_feed {x : GSession} {t : ByteArray} (ht : t.size ≤ 1048576) (h : ∀ q ∈ zsSession x, q ≤ 1048576) : ∀ q ∈ zsSession (feedS x t), (q : Int) ≤ 4611686018427387904 := by
  have h' : ∀ q ∈ zsSession x, (q : Int) ≤ 4611686018427387904 := fun q hq => by have := h q hq; omega
  unfold feedS; split
  · intro q hq
    have e : zsSession { x with In := x.In ++ t } = (x.In ++ t).size :: (zsSession x).tail := by simp [zsSession]
    rw [e] at hq
    rcases List.mem_cons.1 hq with rfl | hq
    · have := h x.In.size (by simp [zsSession])
      rw [ByteArray.size_append]; omega
    · exact h' q (List.mem_of_mem_tail hq)
  · exact h'
theorem zsS_fed {xs : List GSession} {i : Int} {t : ByteArray} (ht : t.size ≤ 1048576) (h : ∀ q ∈ zsSessionS xs, q ≤ 1048576) : ∀ q ∈ zsSessionS (fedL xs i t), (q : Int) ≤ 4611686018427387904 := by
  have hl : xs.length ≤ 1048576 := h _ (List.mem_cons_self ..)
  have h' : ∀ q ∈ zsSessionS xs, (q : Int) ≤ 4611686018427387904 := fun q hq => by have := h q hq; omega
  unfold fedL; split
  · split
    · rename_i x hx
      refine zs_mkS (by rw [List.length_set]; omega) fun y hy => ?_
      rcases List.mem_or_eq_of_mem_set hy with hy | rfl
      · exact zs_ses h' hy
      · exact zs_feed ht fun q hq => h q (List.mem_cons_of_mem _ (List.mem_flatMap.2 ⟨x, List.mem_of_getElem? hx, hq⟩))
    · exact h'
  · exact h'
end Go.Av
