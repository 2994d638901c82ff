/- The abstract walk is sound: regions in the order of their text. -/
import Derived.Test.YtjbokkoiicoahaaGreatAvw
namespace Go.Av
open Go Go.RowKit
set_option linter.unusedVariables false
set_option linter.unusedSimpArgs false

/-- One operation of a region, with its guard. -/
def gop (all : List Oper) (o : Oper) (F : St → Prop) (K : St → Prop) (σ : St) : Prop :=
  match o.guard with
  | none => F σ
  | some (j, want) => match dstOf all j with
    | some t => match getL σ.sl t with
      | .bool b => (b = want → F σ) ∧ (b = (!want) → K (σ.put o.dst (.tup [])))
      | .tup [] => K (σ.put o.dst (.tup []))
      | _ => False
    | none => False

section
variable {P : Program} {T : Tys} {X : Spec} {B : Ft} {W0 : World} {I0 : Ft} {σ σ' : St} {a : Act} {w w' : World} {o : Oper} {ops : Array Oper} {Q : Exit → Act → World → Prop}

theorem undef_rel {I : Ft} {val : Nat → Value} {bl : List (Nat × Blk)} : RelS w I val bl (.tup []) undef := .tup [] [] .nil

theorem yielded_undef {I : Ft} {val : Nat → Value} {fs : Nat → Ft} (h : Sim B W0 I0 I val fs σ a w) {j : Nat} {t : Tmp} (hd : dstOf ops.toList j = some t) (hb : getL σ.sl t = .tup []) : yielded ops a.tmps j = none := by
  have h1 := dstOf_spec _ _ _ hd
  rw [Array.getElem?_toList] at h1
  unfold yielded
  rw [h1]
  have h2 := h.slots.get t undef
  rw [hb] at h2
  have h3 : a.tmps.toList.getD t undef = undef := by
    generalize a.tmps.toList.getD t undef = v at h2
    cases h2 with
    | leaf c v hl h => cases hl
    | tup cs vs h => cases h; rfl
  simp only [List.getD_eq_getElem?_getD, Array.getElem?_toList] at h3
  cases hq : a.tmps[t]? with
  | none => simp [hq]
  | some v =>
    rw [hq] at h3
    simp only [Option.getD_some] at h3
    subst h3
    simp [hq, undef]

theorem wpOp_sound (hT : TyOk P T) (hX : AllReal P X) {i : Nat} (ho : ops[i]? = some o) (h : SimE B W0 I0 σ a w) {K : St → Prop} {next : Act → World → Prop}
    (hk : ∀ σ' a' w', SimE B W0 I0 σ' a' w' → K σ' → next a' w') (hg : gop ops.toList o (aop T X o K) K σ) : wpOp P ops Q i next a w := by
  obtain ⟨I, val, fs, h⟩ := h
  unfold wpOp
  simp only [ho]
  unfold gop at hg
  split at hg
  · rename_i hgd
    have hw : Region.wanted o (yielded ops a.tmps) = true := by simp [Region.wanted, hgd]
    rw [if_pos hw]
    exact .inl (aop_sound hT hX h hk hg)
  · rename_i j want hgd
    split at hg
    case h_2 => exact hg.elim
    rename_i t ht
    split at hg
    case h_3 => exact hg.elim
    case h_2 hb =>
      have hy := yielded_undef h ht hb
      have hw : Region.wanted o (yielded ops a.tmps) = false := by simp [Region.wanted, hgd, hy]
      rw [hw, if_neg (by simp)]
      exact hk _ _ _ ⟨I, val, fs, h.put o.dst undef_rel⟩ hg
    rename_i b hb
    have hy := yielded_slot h ht hb
    have hw : Region.wanted o (yielded ops a.tmps) = (b == want) := by simp [Region.wanted, hgd, hy]
    rw [hw]
    by_cases hbw : b = want
    · rw [if_pos (by simp [hbw])]
      exact .inl (aop_sound hT hX h hk (hg.1 hbw))
    · rw [if_neg (by simp [hbw])]
      exact hk _ _ _ ⟨I, val, fs, h.put o.dst undef_rel⟩ (hg.2 (by cases b <;> cases want <;> simp_all))

theorem aops_cons (all : List Oper) (o : Oper) (rest : List Oper) (K : St → Prop) (σ : St) : aops T X all (o :: rest) K σ = gop all o (aop T X o (aops T X all rest K)) (aops T X all rest K) σ := rfl

theorem aops_sound (hT : TyOk P T) (hX : AllReal P X) {K : St → Prop} (hk : ∀ σ' a' w', SimE B W0 I0 σ' a' w' → K σ' → Q .normal a' w') : ∀ (l : List Oper) (k : Nat), ops.toList.drop k = l →
    ∀ (σ : St) (a : Act) (w : World), SimE B W0 I0 σ a w → aops T X ops.toList l K σ → wpOps P ops Q (List.range' k l.length) a w
  | [], k, hl, σ, a, w, h, ha => hk σ a w h ha
  | o :: l, k, hl, σ, a, w, h, ha => by
    have ho : ops[k]? = some o := by
      have : (ops.toList.drop k)[0]? = some o := by rw [hl]; rfl
      simpa using this
    have hl' : ops.toList.drop (k + 1) = l := by
      have : (ops.toList.drop k).drop 1 = l := by rw [hl]; rfl
      rw [List.drop_drop] at this
      exact this
    rw [List.length_cons, List.range'_succ, wpOps_cons]
    rw [aops_cons] at ha
    exact wpOp_sound hT hX ho h (fun σ' a' w' h' => aops_sound hT hX hk l (k + 1) hl' σ' a' w' h') ha

theorem region_sound (hT : TyOk P T) (hX : AllReal P X) {id : Nat} {K : St → Prop} (hk : ∀ σ' a' w', SimE B W0 I0 σ' a' w' → K σ' → Q .normal a' w') (h : SimE B W0 I0 σ a w)
    (ha : aops T X ops.toList ops.toList K σ) : (Code.region id ops false).wp P Q a w := by
  apply wp_region
  have := aops_sound (ops := ops) hT hX hk ops.toList 0 rfl σ a w h ha
  rw [List.range_eq_range']
  simpa using this

/-! ### What is said otherwise of a state -/
variable {I : Ft} {val : Nat → Value} {fs : Nat → Ft}

mutual
theorem RelS.thaw {I' : Ft} (hII : ∀ x, I x → I' x) {d : Nat} {b : Blk} {pv : PV} {bl : List (Nat × Blk)} (hb : blk bl d = some b) (hpl : leafB pv = true) (hp : RelV w I' pv (val d) none') {bl' : List (Nat × Blk)} (hE : Less d bl bl') :
    ∀ {c : PV} {v : Value}, RelS w I val bl c v → RelS w I' val bl' (Av.thaw d pv c) v
  | _, _, .leaf c v hl h => by
    have hv : Av.thaw d pv c = c := by cases c <;> first | rfl | simp [leafB] at hl
    rw [hv]
    exact .leaf _ _ hl (h.frame (SameOn.refl _ _) hII (SameOn.refl _ _))
  | _, _, .own e be he hk => by
    simp only [Av.thaw]
    by_cases h0 : e = d
    · subst h0
      simp only [beq_true, cond_true]
      exact .leaf _ _ hpl hp
    · simp only [beq_false h0, cond_false]
      obtain ⟨b', hb', hs, hk'⟩ := hE e be h0 he
      exact .own e b' hb' (by rw [hk']; exact hk)
  | _, _, .pt e i j be g he hg => by
    simp only [Av.thaw]
    by_cases h0 : e = d
    · subst h0
      simp only [beq_true, cond_true]
      exact .bad _
    · simp only [beq_false h0, cond_false]
      obtain ⟨b', hb', hs, hk'⟩ := hE e be h0 he
      rw [← hs]
      exact .pt e i j b' g hb' hg
  | _, _, .rd cs a vs hb' hs hc hr => .rd cs a vs (fun h => hII _ (hb' h)) hs hc (RelL.frame (SameOn.refl _ _) hII hr (SameOn.refl _ _))
  | _, _, .agg cs vs h => .agg _ vs (RelSL.thaw hII hb hpl hp hE h)
  | _, _, .tup cs vs h => .tup _ vs (RelSL.thaw hII hb hpl hp hE h)
  | _, _, .fn f cs vs h => .fn f _ vs (RelSL.thaw hII hb hpl hp hE h)
  | _, _, .bad v => .bad v
theorem RelSL.thaw {I' : Ft} (hII : ∀ x, I x → I' x) {d : Nat} {b : Blk} {pv : PV} {bl : List (Nat × Blk)} (hb : blk bl d = some b) (hpl : leafB pv = true) (hp : RelV w I' pv (val d) none') {bl' : List (Nat × Blk)} (hE : Less d bl bl') :
    ∀ {l : List PV} {vs : List Value}, RelSL w I val bl l vs → RelSL w I' val bl' (Av.thawS d pv l) vs
  | _, _, .nil => .nil
  | _, _, .cons c l v vs h t => .cons _ _ v vs (RelS.thaw hII hb hpl hp hE h) (RelSL.thaw hII hb hpl hp hE t)
end

def thawK (d : Nat) (v : PV) : Blk → Blk
  | ⟨.arr, sz, rows⟩ => ⟨.arr, sz, rows⟩
  | ⟨k, sz, [r]⟩ => ⟨k, sz, [thawS d v r]⟩
  | ⟨k, sz, _⟩ => ⟨k, sz, []⟩

theorem thawK_k (d : Nat) (v : PV) (b : Blk) : (thawK d v b).k = b.k ∧ (thawK d v b).sz = b.sz := by
  obtain ⟨k, sz, rows⟩ := b
  cases k <;> first | exact ⟨rfl, rfl⟩ | (match rows with | [] => exact ⟨rfl, rfl⟩ | [r] => exact ⟨rfl, rfl⟩ | _ :: _ :: _ => exact ⟨rfl, rfl⟩)

theorem blk_thawB (d : Nat) (v : PV) (e : Nat) : ∀ (l : List (Nat × Blk)), blk (thawB d v l) e = (blk l e).map (thawK d v)
  | [] => rfl
  | (f, c) :: l => by
    have hc : thawB d v ((f, c) :: l) = (f, thawK d v c) :: thawB d v l := by
      obtain ⟨k, sz, rows⟩ := c
      cases k <;> first | rfl | (match rows with | [] => rfl | [r] => rfl | _ :: _ :: _ => rfl)
    rw [hc, blk_cons, blk_cons, blk_thawB d v e l]
    by_cases h : f = e <;> simp [h]

theorem thawS_length (d : Nat) (v : PV) : ∀ l : List PV, (thawS d v l).length = l.length
  | [] => rfl
  | _ :: l => by simp [thawS, thawS_length d v l]

theorem less_thaw (d : Nat) (v : PV) (bl : List (Nat × Blk)) : Less d bl (thawB d v (delB bl d)) := by
  intro e b hne hb
  refine ⟨thawK d v b, ?_, (thawK_k d v b).2, (thawK_k d v b).1⟩
  rw [blk_thawB, blk_delB, if_neg (Ne.symm hne), hb]
  rfl

theorem BlkR.thaw {I' : Ft} (hII : ∀ x, I x → I' x) {d : Nat} {b0 : Blk} {pv : PV} {bl : List (Nat × Blk)} (hb0 : blk bl d = some b0) (hpl : leafB pv = true) (hp : RelV w I' pv (val d) none') {bl' : List (Nat × Blk)} (hE : Less d bl bl')
    {b : Blk} {v : Value} {F : Ft} (h : BlkR w I val bl b v F) : BlkR w I' val bl' (thawK d pv b) v F := by
  obtain ⟨k, sz, rows⟩ := b
  cases k with
  | arr =>
    obtain ⟨e, xs, G, hu, how, hR, hG, hob⟩ := h
    exact ⟨e, xs, G, hu, how, hR.frame (SameOn.refl _ _) hII (SameOn.refl _ _), hG, hob⟩
  | var =>
    match rows, h with
    | [r], h =>
      obtain ⟨g, hv', T, c, hg, hh, hs, hl, h1⟩ := h
      exact ⟨g, hv', T, c, hg, hh, hs.thaw hII hb0 hpl hp hE, by rw [thawS_length]; exact hl, h1⟩
  | lit =>
    match rows, h with
    | [r], h =>
      obtain ⟨g, hv', h0, T, c, hg, hh, hs, hl, h1⟩ := h
      exact ⟨g, hv', h0, T, c, hg, hh, hs.thaw hII hb0 hpl hp hE, by rw [thawS_length]; exact hl, h1⟩

theorem Sim.freeze (h : Sim B W0 I0 I val fs σ a w) {d sz : Nat} {rows : List (List PV)} (hd : blk σ.bl d = some ⟨.arr, sz, rows⟩) :
    SimE B W0 I0 { sl := thawS d (.sl sz (eraseR rows)) σ.sl, bl := thawB d (.sl sz (eraseR rows)) (delB σ.bl d), hd := delV σ.hd d } a w := by
  obtain ⟨e, xs, G, hu, how, hR, hG, hob⟩ := h.blocks d _ hd
  have hII : ∀ x, I x → I x ∨ fs d x := fun x hx => .inl hx
  have hp : RelV w (fun x => I x ∨ fs d x) (.sl sz (eraseR rows)) (val d) none' := by
    have := RelV.erase (J := fun x => I x ∨ fs d x) hII (RelV.ow (w := w) (I := I) sz rows (val d) e xs (fs d) G hu how hR hG hob) (fun x hx => .inr hx)
    simpa [Av.erase] using this
  have look : ∀ e c, blk (thawB d (.sl sz (eraseR rows)) (delB σ.bl d)) e = some c → ∃ b, e ≠ d ∧ blk σ.bl e = some b ∧ c = thawK d (.sl sz (eraseR rows)) b := by
    intro e c he
    rw [blk_thawB, blk_delB] at he
    by_cases h0 : d = e
    · rw [if_pos h0] at he; cases he
    · rw [if_neg h0] at he
      cases hb : blk σ.bl e with
      | none => rw [hb] at he; cases he
      | some b => rw [hb] at he; exact ⟨b, Ne.symm h0, rfl, by simpa using he.symm⟩
  refine ⟨fun x => I x ∨ fs d x, val, fs, { slots := h.slots.thaw hII hd rfl hp (less_thaw _ _ _), blocks := fun e c he => ?_, disj := fun e e' c c' he he' hne => ?_, imm := fun e c he x hx hi => ?_, new := fun e c he => ?_, lt := fun x hx => ?_, old := fun x hx => ?_, below := h.below, size := h.size, heads := fun e v he => ?_, defers := h.defers }⟩
  · obtain ⟨b, _, hb, rfl⟩ := look e c he
    exact (h.blocks e b hb).thaw hII hd rfl hp (less_thaw _ _ _)
  · obtain ⟨b, _, hb, _⟩ := look e c he
    obtain ⟨b', _, hb', _⟩ := look e' c' he'
    exact h.disj _ _ _ _ hb hb' hne
  · obtain ⟨b, hne, hb, _⟩ := look e c he
    rcases hi with hi | hi
    · exact h.imm _ _ hb x hx hi
    · exact h.disj _ _ _ _ hb hd hne x hx hi
  · obtain ⟨b, _, hb, _⟩ := look e c he; exact h.new _ _ hb
  · rcases hx with hx | hx
    · exact h.lt x hx
    · exact (h.new d _ hd x hx).2
  · rcases hx with hx | hx
    · exact h.old x hx
    · exact .inr (h.new d _ hd x hx).1
  · obtain ⟨hne, he⟩ := lookV_del he
    obtain ⟨h1, c, hc⟩ := h.heads e v he
    exact ⟨h1, _, by show blk (thawB d _ (delB σ.bl d)) e = _; rw [blk_thawB, blk_delB, if_neg (Ne.symm hne), hc]; rfl⟩

theorem rel_zc {v : Value} {bl : List (Nat × Blk)} (h : RelS w I val bl .zc v) : v = .slice none 0 0 := by
  cases h with
  | leaf c v hl h => cases h; rfl

theorem arr_nil (sz : Nat) : ArrR w I sz [] (.slice none 0 0) none' :=
  ⟨0, [], none', fun r hr => by simp at hr, ⟨by simp, .inl ⟨rfl, rfl⟩⟩, .nil _, fun _ h => h, fun b hb => by cases hb⟩

/-- A block for a nil slice. -/
theorem Sim.nilBlk (h : Sim B W0 I0 I val fs σ a w) {d : Nat} (hd : blk σ.bl d = none) (sz : Nat) :
    Sim B W0 I0 I (upd val d (.slice none 0 0)) (upd fs d none') { σ with bl := (d, ⟨.arr, sz, []⟩) :: σ.bl } a w :=
  h.newBlk hd (arr_nil sz) (fun x hx => hx.elim) (fun x hx => hx.elim) (fun x hx => hx.elim)

theorem set_same {α : Type} : ∀ (l : List α) (k : Nat) (x : α), l[k]? = some x → l.set k x = l
  | [], _, _, _ => rfl
  | y :: l, 0, x, h => by simp at h; simp [h]
  | y :: l, k + 1, x, h => by simp at h; simp [set_same l k x h]

theorem RelSL.setNew {bl : List (Nat × Blk)} : ∀ {l : List PV} {vs : List Value}, RelSL w I val bl l vs → ∀ (k : Nat) {c : PV}, (∀ v, RelS w I val bl (getL l k) v → RelS w I val bl c v) → RelSL w I val bl (setL l k c) vs
  | _, _, .nil, _, _, _ => .nil
  | _, _, .cons c l v vs h t, 0, _, hc => .cons _ _ _ _ (hc v h) t
  | _, _, .cons c l v vs h t, k + 1, _, hc => .cons _ _ _ _ h (t.setNew k hc)

theorem nil_own {d sz : Nat} {bl : List (Nat × Blk)} (hd : blk bl d = some ⟨.arr, sz, []⟩) (hv : val d = .slice none 0 0) {v : Value} (h : RelS w I val bl .zc v) : RelS w I val bl (.own d) v := by
  rw [rel_zc h, ← hv]
  exact .own d _ hd (by intro h; cases h)

theorem Sim.slotNil (h : Sim B W0 I0 I val fs σ a w) {k d : Nat} (hz : getL σ.sl k = .zc) (hd : blk σ.bl d = none) (sz : Nat) : SimE B W0 I0 { σ with sl := setL σ.sl k (.own d), bl := (d, ⟨.arr, sz, []⟩) :: σ.bl } a w := by
  have h1 := h.nilBlk hd sz
  refine ⟨I, _, _, { h1 with slots := h1.slots.setNew k fun v hv => ?_ }⟩
  have hv' : RelS w I (upd val d (.slice none 0 0)) ((d, ⟨.arr, sz, []⟩) :: σ.bl) (getL σ.sl k) v := hv
  rw [hz] at hv'
  exact nil_own (by rw [blk_cons, if_pos rfl]) (upd_same _ _ _) hv'

theorem Sim.cellNil (h : Sim B W0 I0 I val fs σ a w) {b j d n : Nat} {r : List PV} (hb : blk σ.bl b = some ⟨.var, n, [r]⟩) (hz : getL r j = .zc) (hd : blk σ.bl d = none) (sz : Nat) :
    SimE B W0 I0 { σ with bl := (d, ⟨.arr, sz, []⟩) :: setB σ.bl b ⟨.var, n, [setL r j (.own d)]⟩ } a w := by
  have h1 := h.nilBlk hd sz
  have hne : b ≠ d := by rintro rfl; rw [hd] at hb; cases hb
  have hE : Ext ((d, ⟨.arr, sz, []⟩) :: σ.bl) ((d, ⟨.arr, sz, []⟩) :: setB σ.bl b ⟨.var, n, [setL r j (.own d)]⟩) (upd val d (.slice none 0 0)) (upd val d (.slice none 0 0)) := by
    intro e c he
    refine ⟨?_, rfl⟩
    rw [blk_cons] at he ⊢
    by_cases h0 : d = e
    · rw [if_pos h0] at he ⊢; exact ⟨c, he, rfl, rfl⟩
    · rw [if_neg h0] at he ⊢
      rw [blk_setB]
      by_cases h2 : b = e
      · subst h2
        rw [hb] at he
        cases he
        rw [if_pos rfl]
        exact ⟨_, rfl, rfl, rfl⟩
      · rw [if_neg h2]; exact ⟨c, he, rfl, rfl⟩
  have look : ∀ e c, blk ((d, ⟨.arr, sz, []⟩) :: setB σ.bl b ⟨.var, n, [setL r j (.own d)]⟩) e = some c → ∃ c', blk ((d, ⟨.arr, sz, []⟩) :: σ.bl) e = some c' ∧ ((e = b ∧ c = ⟨.var, n, [setL r j (.own d)]⟩ ∧ c' = ⟨.var, n, [r]⟩) ∨ c = c') := by
    intro e c he
    rw [blk_cons] at he ⊢
    by_cases h0 : d = e
    · rw [if_pos h0] at he ⊢; exact ⟨c, he, .inr rfl⟩
    · rw [if_neg h0] at he ⊢
      rw [blk_setB] at he
      by_cases h2 : b = e
      · subst h2
        rw [if_pos rfl] at he
        exact ⟨_, hb, .inl ⟨rfl, by simpa using he.symm, rfl⟩⟩
      · rw [if_neg h2] at he; exact ⟨c, he, .inr rfl⟩
  refine ⟨I, upd val d (.slice none 0 0), upd fs d none', { slots := h1.slots.frame (SameOn.refl _ _) (fun _ h => h) hE, blocks := fun e c he => ?_, disj := fun e e' c c' he he' hne => ?_, imm := fun e c he => ?_, new := fun e c he => ?_, lt := h.lt, old := h.old, below := h.below, size := h.size, heads := fun e v he => ?_, defers := h.defers }⟩
  · obtain ⟨c', hc', ⟨rfl, rfl, rfl⟩ | rfl⟩ := look e c he
    · obtain ⟨g, hv', T, cc, hg, hh, hs, hl, h1'⟩ := h1.blocks _ _ hc'
      refine ⟨g, hv', T, cc, hg, hh, ?_, by rw [setL_length]; exact hl, h1'⟩
      refine (hs.frame (SameOn.refl _ _) (fun _ h => h) hE).setNew j fun v hv => ?_
      rw [hz] at hv
      exact nil_own (by rw [blk_cons, if_pos rfl]) (upd_same _ _ _) hv
    · exact (h1.blocks e c hc').frame (SameOn.refl _ _) (fun _ h => h) hE (SameOn.refl _ _)
  · obtain ⟨b1, hb1, _⟩ := look e c he
    obtain ⟨b2, hb2, _⟩ := look e' c' he'
    exact h1.disj _ _ _ _ hb1 hb2 hne
  · obtain ⟨b1, hb1, _⟩ := look e c he; exact h1.imm _ _ hb1
  · obtain ⟨b1, hb1, _⟩ := look e c he; exact h1.new _ _ hb1
  · obtain ⟨h2, c, hc⟩ := h1.heads e v he
    obtain ⟨⟨c', hc', _⟩, _⟩ := hE e c hc
    exact ⟨h2, c', hc'⟩

theorem Sim.reorder {I : Ft} {val : Nat → Value} {fs : Nat → Ft} (h : Sim B W0 I0 I val fs σ a w) {bl' : List (Nat × Blk)} (hb : ∀ d, blk bl' d = blk σ.bl d) : Sim B W0 I0 I val fs { σ with bl := bl' } a w := by
  have hE : Ext σ.bl bl' val val := fun d b hd => ⟨⟨b, by rw [hb]; exact hd, rfl, rfl⟩, rfl⟩
  refine { slots := RelSL.frame (SameOn.refl _ _) (fun _ h => h) hE h.slots, blocks := fun e c he => ?_, disj := fun e e' c c' he he' => ?_, imm := fun e c he => ?_, new := fun e c he => ?_, lt := h.lt, old := h.old, below := h.below, size := h.size, heads := fun e v he => ?_, defers := h.defers }
  · have he : blk bl' e = some c := he
    rw [hb] at he
    exact (h.blocks e c he).frame (SameOn.refl _ _) (fun _ h => h) hE (SameOn.refl _ _)
  · have he : blk bl' e = some c := he
    have he' : blk bl' e' = some c' := he'
    rw [hb] at he he'
    exact h.disj e e' c c' he he'
  · have he : blk bl' e = some c := he
    rw [hb] at he; exact h.imm e c he
  · have he : blk bl' e = some c := he
    rw [hb] at he; exact h.new e c he
  · obtain ⟨h2, c, hc⟩ := h.heads e v he
    exact ⟨h2, c, by show blk bl' e = some c; rw [hb]; exact hc⟩

theorem blk_up {bl : List (Nat × Blk)} {d : Nat} {b : Blk} (hd : blk bl d = some b) (e : Nat) : blk ((d, b) :: delB bl d) e = blk bl e := by
  show (bif nq d e then some b else blk (delB bl d) e) = _
  cases hde : nq d e with
  | true => rw [← nq_eq hde, hd]; rfl
  | false =>
    have hne : ¬ d = e := fun h => by subst h; rw [nq_self] at hde; cases hde
    rw [blk_delB, if_neg hne]; rfl

theorem tweak1_sound (h : SimE B W0 I0 σ a w) {t : Tw} (ht : tweak1 σ t = some σ') : SimE B W0 I0 σ' a w := by
  obtain ⟨I, val, fs, h⟩ := h
  cases t with
  | back D d i j =>
    simp only [tweak1] at ht
    split at ht
    · rename_i s nrows v sz rows hD hv hd
      split at ht
      · rename_i r hr
        split at ht
        · rename_i hc
          simp only [Option.some.injEq] at ht; subst ht
          obtain ⟨fs', hS⟩ := h.giveBack hD hv hd hr hc.1 hc.2
          exact ⟨_, _, _, hS⟩
        · cases ht
      · cases ht
    · cases ht
  | freeze d =>
    simp only [tweak1] at ht
    split at ht
    · rename_i sz rows hd
      simp only [Option.some.injEq] at ht; subst ht
      exact h.freeze hd
    · cases ht
  | slot k d sz =>
    simp only [tweak1] at ht
    split at ht
    · rename_i hz hd
      simp only [Option.some.injEq] at ht; subst ht
      exact h.slotNil hz hd sz
    · cases ht
  | cell b j d sz =>
    simp only [tweak1] at ht
    split at ht
    · rename_i n r hb hd
      split at ht
      · rename_i hz
        simp only [Option.some.injEq] at ht; subst ht
        exact h.cellNil hb hz hd sz
      · cases ht
    · cases ht
  | up d =>
    simp only [tweak1] at ht
    split at ht
    · rename_i b hb
      simp only [Option.some.injEq] at ht; subst ht
      exact ⟨_, _, _, h.reorder (blk_up hb)⟩
    · cases ht

theorem tweak_sound : ∀ (tw : List Tw) {σ : St}, SimE B W0 I0 σ a w → tweak σ tw = some σ' → SimE B W0 I0 σ' a w
  | [], σ, h, ht => by simp only [tweak, Option.some.injEq] at ht; subst ht; exact h
  | t :: l, σ, h, ht => by
    simp only [tweak] at ht
    split at ht
    · rename_i σ1 h1; exact tweak_sound l (tweak1_sound h h1) ht
    · cases ht

theorem RelSL.keepL {bl : List (Nat × Blk)} : ∀ {l : List PV} {vs : List Value}, RelSL w I val bl l vs → ∀ (k : Nat) (ts : List Nat), RelSL w I val bl (Av.keepL k ts l) vs
  | _, _, .nil, _, _ => .nil
  | _, _, .cons c l v vs h t, k, [] => .cons _ _ _ _ (.bad _) (t.keepL 0 [])
  | _, _, .cons c l v vs h t, k, e :: ts => by
    simp only [Av.keepL]
    cases nq k e with
    | true => exact .cons _ _ _ _ h (t.keepL _ _)
    | false => exact .cons _ _ _ _ (.bad _) (t.keepL _ _)

theorem dropAll_sound (ds : List Nat) : ∀ (l : List (Nat × Blk)) {σ : St}, Sim B W0 I0 I val fs σ a w → Sim B W0 I0 I val fs (dropAll ds l σ) a w
  | [], σ, h => h
  | (e, b) :: l, σ, h => by
    simp only [dropAll]
    cases memN e ds with
    | true => exact dropAll_sound ds l h
    | false => exact dropAll_sound ds l (h.drop e)

theorem keep_sound (h : SimE B W0 I0 σ a w) (ks ds : List Nat) : SimE B W0 I0 (σ.keep ks ds) a w := by
  obtain ⟨I, val, fs, h⟩ := h
  exact ⟨I, val, fs, dropAll_sound ds _ { h with slots := h.slots.keepL 0 ks }⟩

end
end Go.Av
