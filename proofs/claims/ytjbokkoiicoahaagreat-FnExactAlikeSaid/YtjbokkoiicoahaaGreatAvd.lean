/- What a call gives back, bound to a slot of the caller. -/
import Derived.Test.YtjbokkoiicoahaaGreatAvc
namespace Go.Av
open Go Go.RowKit
set_option linter.unusedVariables false
set_option linter.unusedSimpArgs false
section
variable {P : Program} {T : Tys} {B : Ft} {W0 : World} {I0 : Ft} {I : Ft} {val : Nat → Value} {fs : Nat → Ft} {σ σ' : St} {a : Act} {w w' : World} {o : Oper}
theorem freeB_append : ∀ {x y bl : List (Nat × Blk)}, freeB bl (x ++ y) = true → freeB bl y = true ∧ freeB (y ++ bl) x = true
 | [], y, bl, h => ⟨h, rfl⟩
 | (d, b) :: x, y, bl, h => by
  rw [List.cons_append] at h
  obtain ⟨h1, h2, h3⟩ := freeB_head h
  obtain ⟨h4, h5⟩ := freeB_append h3
  refine ⟨h4, ?_⟩
  rw [blk_append] at h2
  have hx : blk x d = none := by cases hq : blk x d with | none => rfl | some q => rw [hq] at h2; cases h2
  rw [hx] at h2
  have hy : blk y d = none := h2
  simp only [freeB, h5, hx, Bool.and_true]
  rw [blk_append, hy, h1]
theorem bindV_one {own : Bool} {id : Nat} {c : PV} (h : ∀ cs, c ≠ .agg cs) : bindV own id c = ((bindC own id c).1, match (bindC own id c).2 with | some b => [(id, b)] | none => []) := by
 cases c <;> first | rfl | exact absurd rfl (h _)
theorem bindV_rel (h : Sim B W0 I0 I val fs σ a w) {id : Nat} {c : PV} {v : Value} {F : Ft} (hc : RelR1 w I c v F) (hF : ∀ x, F x → B x ∧ x < w.heap.size) (hI : ∀ x, F x → ¬ I x) (hO : ∀ x, F x → ∀ e b, blk σ.bl e = some b → ¬ fs e x)
  (hfree : freeB σ.bl (bindV true id c).2 = true) :
  ∃ val' fs', Sim B W0 I0 I val' fs' { σ with bl := (bindV true id c).2 ++ σ.bl } a w ∧ RelS w I val' ((bindV true id c).2 ++ σ.bl) (bindV true id c).1 v ∧ Ext σ.bl ((bindV true id c).2 ++ σ.bl) val val' ∧
   Beside σ.bl ((bindV true id c).2 ++ σ.bl) fs fs' F := by
 cases hc with
 | one c v F hv =>
  have hne : ∀ cs, c ≠ .agg cs := by rintro cs rfl; cases hv
  rw [bindV_one hne] at hfree ⊢
  exact bindC_rel h hv hF hI hO rfl hfree
 | agg cs vs F hl =>
  obtain ⟨val', fs', h1, h2, h3, h4⟩ := bindL_rel h hl hF hI hO hfree
  exact ⟨val', fs', h1, .agg _ _ h2, h3, h4⟩
theorem bindT_rel : ∀ {l : List PV} {vs : List Value} {F : Ft} {id : Nat}, Sim B W0 I0 I val fs σ a w → RelT w I l vs F → (∀ x, F x → B x ∧ x < w.heap.size) → (∀ x, F x → ¬ I x) → (∀ x, F x → ∀ e b, blk σ.bl e = some b → ¬ fs e x) →
    freeB σ.bl (bindT true id l).2 = true →
    ∃ val' fs', Sim B W0 I0 I val' fs' { σ with bl := (bindT true id l).2 ++ σ.bl } a w ∧ RelSL w I val' ((bindT true id l).2 ++ σ.bl) (bindT true id l).1 vs ∧ Ext σ.bl ((bindT true id l).2 ++ σ.bl) val val' ∧
      Beside σ.bl ((bindT true id l).2 ++ σ.bl) fs fs' F
  | _, _, _, id, h, .nil F, _, _, _, _ => ⟨val, fs, h, .nil, Ext.refl _ _, fun d b hb => .inl ⟨hb, rfl⟩⟩
  | _, _, _, id, h, .cons c l v vs F G H hc ht hF hG hd, hlt, hI, hO, hfree => by
    obtain ⟨hrest, hfree1⟩ := freeB_append (x := (bindV true id c).2) (y := (bindT true (id + 100000) l).2) hfree
    obtain ⟨val1, fs1, hS1, hR1, hE1, hB1⟩ := bindT_rel (id := id + 100000) h ht (fun x hx => hlt x (hG x hx)) (fun x hx => hI x (hG x hx)) (fun x hx => hO x (hG x hx)) hrest
    have hO1 : ∀ x, F x → ∀ e b, blk ((bindT true (id + 100000) l).2 ++ σ.bl) e = some b → ¬ fs1 e x := by
      intro x hx e b he hf
      rcases hB1 e b he with ⟨h1, h2⟩ | ⟨h1, h2⟩
      · rw [h2] at hf; exact hO x (hF x hx) e b h1 hf
      · exact hd x hx (h2 x hf)
    obtain ⟨val2, fs2, hS2, hR2, hE2, hB2⟩ := bindV_rel hS1 hc (fun x hx => hlt x (hF x hx)) (fun x hx => hI x (hF x hx)) hO1 hfree1
    have hbl : (bindV true id c).2 ++ ((bindT true (id + 100000) l).2 ++ σ.bl) = (bindT true id (c :: l)).2 ++ σ.bl := by simp only [bindT, List.append_assoc]
    rw [hbl] at hS2 hR2 hE2 hB2
    refine ⟨val2, fs2, hS2, .cons _ _ _ _ hR2 (RelSL.frame (SameOn.refl _ _) (fun _ h => h) hE2 hR1), hE1.trans hE2, fun d b hb => ?_⟩
    rcases hB2 d b hb with ⟨h1, h2⟩ | ⟨h1, h2⟩
    · rcases hB1 d b h1 with ⟨h3, h4⟩ | ⟨h3, h4⟩
      · exact .inl ⟨h3, h2.trans h4⟩
      · exact .inr ⟨h3, fun x hx => hG x (h4 x (by rw [h2] at hx; exact hx))⟩
    · refine .inr ⟨?_, fun x hx => hF x (h2 x hx)⟩
      rw [blk_append] at h1
      cases hq : blk (bindT true (id + 100000) l).2 d with
      | none => rw [hq] at h1; exact h1
      | some q => rw [hq] at h1; cases h1
theorem bindR_rel (h : Sim B W0 I0 I val fs σ a w) {id : Nat} {c : PV} {v : Value} {F : Ft} (hc : RelR w I c v F) (hF : ∀ x, F x → B x ∧ x < w.heap.size) (hI : ∀ x, F x → ¬ I x) (hO : ∀ x, F x → ∀ e b, blk σ.bl e = some b → ¬ fs e x)
  (hfree : freeB σ.bl (bindR true id c).2 = true) :
  ∃ val' fs', Sim B W0 I0 I val' fs' { σ with bl := (bindR true id c).2 ++ σ.bl } a w ∧ RelS w I val' ((bindR true id c).2 ++ σ.bl) (bindR true id c).1 v := by
 cases hc with
 | one c v F hv =>
  have hne : bindR true id c = bindV true id c := by
   cases c with
   | tup vs => cases hv with | one _ _ _ hv => cases hv
   | _ => rfl
  rw [hne] at hfree ⊢
  obtain ⟨val', fs', h1, h2, _, _⟩ := bindV_rel h hv hF hI hO hfree
  exact ⟨val', fs', h1, h2⟩
 | tup cs vs F hl =>
  obtain ⟨val', fs', h1, h2, h3, h4⟩ := bindT_rel h hl hF hI hO hfree
  exact ⟨val', fs', h1, .tup _ _ h2⟩
end
end Go.Av
