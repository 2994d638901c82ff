/- How large what is told may be. -/
import Derived.Test.YtjbokkoiicoahaaGreatTm
import Derived.Test.YtjbokkoiicoahaaGreatPl
namespace Go.Av
open Go Go.Proofs
set_option maxRecDepth 100000
set_option maxHeartbeats 4000000
set_option linter.unusedVariables false
set_option linter.unusedSimpArgs false
theorem chain_sum : ∀ {l : List Nat} {n : Int}, 0 ≤ chain n l → (l.sum : Int) ≤ n
 | [], n, h => by simpa [chain] using h
 | k :: l, n, h => by
  rw [chain_cons] at h
  split at h
  ·omega
  have := chain_sum h; simp only [List.sum_cons]; omega
theorem items_sum (x : GServer) (h : ((zsServer x).sum : Int) ≤ 1048576) : (itemsL x.Store.Log.Used).length ≤ 1048576 := by
 have h1 := itemsL_sum x.Store.Log.Used
 have h2 : (zsSegS x.Store.Log.Used).sum ≤ (zsServer x).sum := by
  simp only [zsServer, zsStore, zsLog, List.sum_append]; omega
 omega
theorem zs_pl {us : List GSeg} (h : ∀ q ∈ zsSegS us, q ≤ 1048576) (hl : (itemsL us).length ≤ 1048576) {S : List GSession} (hs : ∀ q ∈ zsSessionS S, q ≤ 1048576) (n : Int) : ∀ k ∈ zsPlain ⟨⟨(stateS (itemsL us)).Boxes⟩, n, S⟩, (k : Int) ≤ 4611686018427387904 := by
 intro k hk
 have h1 := zs_state (zs_itemsL h hl)
 simp only [zsPlain, List.mem_append, List.not_mem_nil, or_false] at hk
 rcases hk with hk | hk
 ·have := h1 k hk; omega
 have := hs k hk; omega
theorem cnMail_eq : ∀ l : List GMail, cnMailS l = 3 * (l.length : Int)
 | [] => rfl
 | m :: l => by
  have h := cnMail_eq l
  have h2 : ceMail m = 3 := rfl
  simp only [cnMailS, List.length_cons, h, h2]; omega
theorem cnBox_le : ∀ L : List GBox, (∀ b ∈ L, b.Mails.length ≤ 200) → cnBoxS L ≤ 700 * (L.length : Int)
 | [], _ => by simp [cnBoxS]
 | b :: L, h => by
  have h1 := cnBox_le L fun x hx => h x (List.mem_cons_of_mem _ hx)
  have h2 := h b (List.mem_cons_self ..)
  have h3 := cnMail_eq b.Mails
  have h4 : ceBox b = 1 + 1 + 1 + 1 + cnMailS b.Mails := rfl
  simp only [cnBoxS, List.length_cons]; omega
theorem cn_state (xs : List GItem) : cnBoxS (stateS xs).Boxes ≤ 140000 := by
 unfold stateS
 split
 ·rename_i h
  have hl := items_len h
  have hb := boxes_len xs
  have := cnBox_le (boxesS xs) fun b hb => by
   obtain ⟨v, _, hv⟩ := List.mem_filterMap.1 hb
   obtain ⟨x, hx, rfl⟩ := box_some hv
   have := mails_len xs x; omega
  show cnBoxS (boxesS xs) ≤ _
  omega
 simp [cnBoxS]
end Go.Av
