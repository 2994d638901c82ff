/- Rules for printed walks: loops by any relation; what a told comparison says. -/
import Derived.Test.YtjbokkoiicoahaaAvq3
namespace Go.Av
open Go Go.RowKit
set_option linter.unusedVariables false
set_option linter.unusedSimpArgs false

section
variable {P : Program} {A : Alg} {T : Tys} {X : Spec} {all l l' : List Oper} {σ σ' : St} {o : Oper} {K : St → Prop} {Q : AE → St → Prop}

/-- A loop: a relation between states and a number that falls. -/
theorem go_loopE {b : Code} (I : St → Nat → Prop) (n : Nat) (tw : List Tw) (ks ds : List Nat) (σ0 : St) (ht : tweak σ tw = some σ') (h0 : σ'.keep ks ds = σ0) (hi : I σ0 n)
    (hstep : ∀ σ n, I σ n → awp T X b (fun e σ2 => match e with | .normal => ∃ σ3 m, m < n ∧ σ2.keep ks ds = σ3 ∧ I σ3 m | e => Q e σ2) σ) : awp T X (.loop b) Q σ := by
  refine ⟨tw, σ', ks, ds, I, n, ht, h0 ▸ hi, fun σ3 m hI => awp_mono ?_ (hstep σ3 m hI)⟩
  intro e σ2 h2
  cases e with
  | normal => obtain ⟨σ4, m', h3, h4, h5⟩ := h2; exact ⟨m', h3, h4 ▸ h5⟩
  | exit id => exact h2
  | ret => exact h2

theorem real_args {P : Program} {g : FuncId} {args args' : List PV} {r : PV} (h : args = args') (hr : Real P g args' r) : Real P g args r := h ▸ hr

theorem dops_guard {j : Nat} {t : Tmp} {want : Bool} (hg : o.guard = some (j, want)) (hd : dstOf all j = some t) (hb : getL σ.sl t = .bool want) (h : dop T X o (dops T X all l K) σ) : dops T X all (o :: l) K σ := by
  simp only [dops, hg, hd, hb]
  exact ⟨fun _ => h, fun h1 => by cases want <;> cases h1⟩

theorem dops_stepG {j : Nat} {t : Tmp} {want : Bool} (hg : o.guard = some (j, want)) (hd : dstOf all j = some t) (hb : getL σ.sl t = .bool want) (hc : callOf σ o = none) (hp : pureOp o = true) (hs : step T σ o = some σ')
    (h : dops T X all l K σ') : dops T X all (o :: l) K σ := dops_guard hg hd hb (dop_step hc hp hs h)

theorem dops_callG {j : Nat} {t : Tmp} {want : Bool} {g : FuncId} {args args' : List PV} {d : Nat} {r : PV} (hg : o.guard = some (j, want)) (hdj : dstOf all j = some t) (hb : getL σ.sl t = .bool want) (hd : o.dst = some d)
    (hc : callOf σ o = some (g, args)) (hv : viewS σ.bl args = args') (hX : X g args' r) (hf : fresh r ∨ noHL args = true) (h : dops T X all l K (σ.put (some d) (froze r))) : dops T X all (o :: l) K σ := by
  refine dops_guard hg hdj hb ?_
  unfold dop
  rw [hc, hd]
  exact ⟨r, hv ▸ hX, hf, h⟩

theorem ops_callGF {j : Nat} {t : Tmp} {want : Bool} {g : FuncId} {args args' : List PV} {d : Nat} {r : PV} (hg : o.guard = some (j, want)) (hdj : dstOf all j = some t) (hb : getL σ.sl t = .bool want) (hd : o.dst = some d)
    (hc : callOf σ o = some (g, args)) (hv : viewS σ.bl args = args') (hX : X g args' r) (hf : fresh r ∨ noHL args = true) (h : aops T X all l K (σ.put (some d) (froze r))) : aops T X all (o :: l) K σ := by
  refine ops_guard hg hdj hb (.inl ?_)
  unfold aop0
  rw [hc, hd]
  exact ⟨r, hv ▸ hX, hf, .inr h⟩
end

theorem pvEqL_eq : ∀ {l m : List PV}, sameK l m = true → pvEqL l m = true → l = m
  | [], [], _, _ => rfl
  | c :: l, d :: m, hk, h => by
    simp only [sameK, pvEqL, Bool.and_eq_true] at hk h
    rw [pvEqL_eq hk.2 h.2]
    congr 1
    cases c <;> cases d <;> simp [sameK1] at hk
    · have e := of_decide_eq_true hk.1; subst e
      have := h.1; simp [pvEq] at this; rw [this]
    · have := h.1; simp [pvEq] at this; rw [this]
    · have := h.1; simp [pvEq] at this; rw [tl_inj this]
  | [], _ :: _, h, _ => by cases h
  | _ :: _, [], h, _ => by cases h

theorem pvEqL_refl : ∀ {l : List PV}, sameK l l = true → pvEqL l l = true
  | [], _ => rfl
  | c :: l, hk => by
    simp only [sameK, pvEqL, Bool.and_eq_true] at hk ⊢
    refine ⟨?_, pvEqL_refl hk.2⟩
    cases c <;> simp [sameK1] at hk <;> simp [pvEq]

theorem pvEqL_iff {l m : List PV} (hk : sameK l m = true) (hl : sameK l l = true) : pvEqL l m = true ↔ l = m :=
  ⟨pvEqL_eq hk, fun h => by subst h; exact pvEqL_refl hl⟩

section
variable {A : Alg} (hA : A = std) {a b : Int} {s t : ByteArray} {x : Bool}
include hA
theorem lss_t (h : A.cmp .lss a b = true) : a < b := by subst hA; simpa [std] using h
theorem lss_f (h : A.cmp .lss a b = false) : b ≤ a := by subst hA; simpa [std] using h
theorem leq_t (h : A.cmp .leq a b = true) : a ≤ b := by subst hA; simpa [std] using h
theorem leq_f (h : A.cmp .leq a b = false) : b < a := by subst hA; simpa [std] using h
theorem gtr_t (h : A.cmp .gtr a b = true) : b < a := by subst hA; simpa [std] using h
theorem gtr_f (h : A.cmp .gtr a b = false) : a ≤ b := by subst hA; simpa [std] using h
theorem geq_t (h : A.cmp .geq a b = true) : b ≤ a := by subst hA; simpa [std] using h
theorem geq_f (h : A.cmp .geq a b = false) : a < b := by subst hA; simpa [std] using h
theorem eql_t (h : A.cmp .eql a b = true) : a = b := by subst hA; simpa [std] using h
theorem eql_f (h : A.cmp .eql a b = false) : a ≠ b := by subst hA; simpa [std] using h
theorem neq_t (h : A.cmp .neq a b = true) : a ≠ b := by subst hA; simpa [std] using h
theorem neq_f (h : A.cmp .neq a b = false) : a = b := by subst hA; simpa [std] using h
theorem seql_t (h : A.scmp .eql s t = true) : s = t := by subst hA; exact tl_inj (by simpa [std] using h)
theorem seql_f (h : A.scmp .eql s t = false) : s ≠ t := by subst hA; intro e; subst e; simp [std] at h
theorem sneq_t (h : A.scmp .neq s t = true) : s ≠ t := by subst hA; intro e; subst e; simp [std] at h
theorem sneq_f (h : A.scmp .neq s t = false) : s = t := by subst hA; exact tl_inj (by simpa [std] using h)
theorem beq_t {y : Bool} (h : A.beq x y = true) : x = y := by subst hA; simpa [std] using h
theorem beq_f {y : Bool} (h : A.beq x y = false) : x ≠ y := by subst hA; simpa [std] using h
theorem aeq_t {l m : List PV} (hk : sameK l m = true) (h : A.aeq l m = true) : l = m := by subst hA; exact pvEqL_eq hk h
theorem aeq_f {l m : List PV} (hk : sameK l m = true) (h : A.aeq l m = false) : l ≠ m := by
  subst hA
  rintro rfl
  have : pvEqL l l = true := pvEqL_refl hk
  have h : pvEqL l l = false := h
  rw [this] at h; cases h
theorem bnot_t (h : A.bnot x = true) : x = false := by subst hA; simpa [std] using h
theorem bnot_f (h : A.bnot x = false) : x = true := by subst hA; simpa [std] using h
theorem rlen_map {α : Type} {f : α → List PV} {xs : List α} {r : List (List PV)} (h : r = xs.map f) : A.rlen r = (xs.length : Int) := by subst hA; subst h; simp [std]
theorem rlen_er {r : List (List PV)} : A.rlen (eraseR r) = A.rlen r := by subst hA; simp [std, eraseR_length]
theorem slen_eq (s : ByteArray) : A.slen s = (s.size : Int) := by subst hA; rfl
theorem add_i64 (h1 : -9223372036854775808 ≤ a + b) (h2 : a + b ≤ 9223372036854775807) : A.num .add .i64 a b = a + b := by subst hA; exact wrap_id h1 h2
theorem sub_i64 (h1 : -9223372036854775808 ≤ a - b) (h2 : a - b ≤ 9223372036854775807) : A.num .sub .i64 a b = a - b := by subst hA; exact wrap_id h1 h2
end

/-- Two lists compared place by place. -/
def eqFunc {α β : Type} (p : α → β → Bool) : List α → List β → Bool
  | [], [] => true
  | x :: xs, y :: ys => p x y && eqFunc p xs ys
  | _, _ => false

theorem eqFunc_len {α β : Type} (p : α → β → Bool) : ∀ (xs : List α) (ys : List β), xs.length ≠ ys.length → eqFunc p xs ys = false
  | [], [], h => absurd rfl h
  | [], _ :: _, _ => rfl
  | _ :: _, [], _ => rfl
  | x :: xs, y :: ys, h => by simp only [eqFunc, eqFunc_len p xs ys (fun h2 => h (by simp [h2])), Bool.and_false]

theorem eqFunc_at {α β : Type} (p : α → β → Bool) {xs : List α} {ys : List β} {i : Nat} {x : α} {y : β} (hx : xs[i]? = some x) (hy : ys[i]? = some y) : eqFunc p (xs.drop i) (ys.drop i) = (p x y && eqFunc p (xs.drop (i + 1)) (ys.drop (i + 1))) := by
  obtain ⟨h1, rfl⟩ := List.getElem?_eq_some_iff.1 hx
  obtain ⟨h2, rfl⟩ := List.getElem?_eq_some_iff.1 hy
  rw [List.drop_eq_getElem_cons h1, List.drop_eq_getElem_cons h2, eqFunc]

theorem eqFunc_end {α β : Type} (p : α → β → Bool) {xs : List α} {ys : List β} {i : Nat} (h1 : xs.length ≤ i) (h2 : ys.length ≤ i) : eqFunc p (xs.drop i) (ys.drop i) = true := by
  rw [List.drop_of_length_le h1, List.drop_of_length_le h2]; rfl

theorem fresh_map {α : Type} (f : α → List PV) (h : ∀ x, freshL (f x) = True) : ∀ xs : List α, freshR (xs.map f) = True
  | [] => by simp only [List.map_nil, freshR]
  | x :: xs => by simp only [List.map_cons, freshR, h x, fresh_map f h xs, and_self]

theorem chain_str {n w : Int} {k : Nat} {l : List Nat} (hw : w = n - k) (h : 0 ≤ w) : chain n ([k] ++ l) = chain w l := by
  rw [List.singleton_append, chain_cons, if_neg (by omega), hw]
theorem chain_strN {n w : Int} {k : Nat} {l : List Nat} (hw : w = n - k) (h : w < 0) : chain n ([k] ++ l) = -1 := by
  rw [List.singleton_append, chain_cons, if_pos (by omega)]
theorem chain_sub {n v : Int} {a l : List Nat} (hv : v = chain n a) (h : 0 ≤ v) : chain n (a ++ l) = chain v l := by
  rw [chain_app _ _ _ (hv ▸ h), hv]
theorem chain_subN {n v : Int} {a l : List Nat} (hn : 0 ≤ n) (hv : v = chain n a) (h : v < 0) : chain n (a ++ l) = -1 := chain_neg _ _ _ hn (hv ▸ h)
theorem chain_bd {n v : Int} {a : List Nat} (hv : v = chain n a) (h : 0 ≤ n) : v ≤ n ∧ -1 ≤ v := by
  subst hv; exact ⟨chain_le _ _ (by omega), chain_ge _ _ (by omega)⟩
end Go.Av
