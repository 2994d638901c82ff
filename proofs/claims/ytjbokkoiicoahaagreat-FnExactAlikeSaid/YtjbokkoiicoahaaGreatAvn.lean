/- Numbers of other kinds; bytes as a text; a slice held against nil. -/
import Derived.Test.YtjbokkoiicoahaaGreatAvk
import Derived.Laws.Cover3
namespace Go.Av
open Go Go.RowKit
set_option linter.unusedVariables false
set_option linter.unusedSimpArgs false
theorem bytesB_flat : ∀ {rows : List (List PV)}, bytesB rows = true → rows.flatten = (nums rows).map (PV.int .u8) ∧ (nums rows).length = rows.length
 | [], _ => ⟨rfl, rfl⟩
 | r :: l, h => by
  unfold bytesB at h
  split at h
  ·rename_i h1; cases h1
  ·rename_i n l' h1
   cases h1
   obtain ⟨e1, e2⟩ := bytesB_flat h
   exact ⟨by simp [nums, rowNum, e1], by simp [nums, e2]⟩
  cases h
section
variable {P : Program} {T : Tys} {B : Ft} {W0 : World} {I0 : Ft} {I : Ft} {val : Nat → Value} {fs : Nat → Ft} {σ σ' : St} {a : Act} {w w' : World} {o : Oper}
theorem relL_u8 : ∀ {ns : List Int} {vs : List Value} {F : Ft}, RelL w I (ns.map (PV.int .u8)) vs F → vs = ns.map (Value.int .u8)
 | [], _, _, h => by cases h; rfl
 | n :: ns, _, _, h => by
  cases h with
  | cons c l v vs F G H h t hF hG d => cases h; rw [relL_u8 t]; rfl
theorem relSL_u8 {bl : List (Nat × Blk)} : ∀ {ns : List Int} {vs : List Value}, RelSL w I val bl (ns.map (PV.int .u8)) vs → vs = ns.map (Value.int .u8)
 | [], _, h => by cases h; rfl
 | n :: ns, _, h => by
  cases h with
  | cons c l v vs h t => rw [rel_int h, relSL_u8 t]; rfl
theorem rowsOf_rel (h : Sim B W0 I0 I val fs σ a w) {c : PV} {v : Value} {rows : List (List PV)} (hc : RelS w I val σ.bl c v) (hr : rowsOf σ.bl c = some rows) :
  (v = .slice none 0 0 ∧ rows = []) ∨ ∃ ad cap vs, v = .slice (some ad) rows.length cap ∧ (∀ (j : Nat) (u : Value), vs[j]? = some u → w.cell? (ad.add j) = some u) ∧ ((∃ F, RelL w I rows.flatten vs F) ∨ RelSL w I val σ.bl rows.flatten vs) := by
 cases hc with
 | leaf c v hl hV =>
  cases hV with
  | int => cases hr
  | bool => cases hr
  | str => cases hr
  | zc => simp only [rowsOf, Option.some.injEq] at hr; exact .inl ⟨rfl, hr.symm⟩
  | raw => cases hl
  | bad => cases hl
  | ow => cases hl
  | slnil sz => simp only [rowsOf, Option.some.injEq] at hr; exact .inl ⟨rfl, hr.symm⟩
  | sl sz rows ad cap vs F hu hI hs hcell hR hcap =>
   simp only [rowsOf, Option.some.injEq] at hr
   subst hr
   exact .inr ⟨ad, cap, vs, rfl, hcell, .inl ⟨_, hR⟩⟩
 | own d b hb hk =>
  simp only [rowsOf, hb] at hr
  split at hr
  ·rename_i sz rows' hq
   cases hq
   simp only [Option.some.injEq] at hr
   subst hr
   obtain ⟨e, xs, G, hu, how, hR, hG, hob⟩ := h.blocks d _ hb
   rcases how.2 with ⟨hv, hn⟩ | ⟨g, cap, cur, hv, _, hh, _⟩
   ·exact .inl ⟨hv, List.eq_nil_of_length_eq_zero hn⟩
   exact .inr ⟨⟨g, 0, none⟩, cap, xs, hv, how.cells (by rw [hv]; rfl), .inl ⟨_, hR⟩⟩
  ·rename_i sz r hq
   cases hq
   simp only [Option.some.injEq] at hr
   subst hr
   obtain ⟨g, hvd, _, T', c', hfg, hh, hsl, hrl, _⟩ := h.blocks d _ hb
   refine .inr ⟨⟨g, 0, none⟩, 1, c'.toList, hvd, fun j u hj => ?_, .inr (by simpa using hsl)⟩
   rw [Addr.add_mid, Nat.zero_add, cell_of_row w g j c' T' (0, 0) hh]; simpa using hj
  cases hr
 | pt d i j b g hb hg => cases hr
 | rd cs a vs hI hs hcell hr' => cases hr
 | agg cs vs h => cases hr
 | tup cs vs h => cases hr
 | fn f cs vs h => cases hr
 | bad v => cases hr
theorem goes_conv (hT : TyOk P T) (h : Sim B W0 I0 I val fs σ a w) {t t' : TypeId} {x : Operand} (ho : o.op = .convert t t' x) (hs : stConv T σ o.dst t t' (σ.get x) = some σ') : Goes P B W0 I0 o a w σ' := by
 have ex := h.eval x
 unfold stConv at hs
 split at hs
 ·rename_i ts _ _ _ k _ _ _ ht ht'
  obtain ⟨_, _, _, _, _, _, _, _, _, hu'⟩ := hT _ _ ht'
  have hu' : P.underlying t' = some (.int k) := hu'
  split at hs
  ·rename_i k0 k1 n hx
   obtain ⟨_, _, _, _, _, _, _, _, _, hu⟩ := hT _ _ ht
   have hu : P.underlying t = some (.int k0) := hu
   simp only [Option.some.injEq] at hs
   subst hs
   rw [hx] at ex
   have ex := rel_int ex
   have hk : P.intKind t' = k := by simp [Program.intKind, hu']
   have := run_convert_int (P := P) w t t' k1 n (by rw [hu]; rfl) (by rw [hk]; exact hu')
   rw [hk] at this
   exact h.value (by simp [execOp, ho, ex, this]) (.leaf _ _ rfl (.int _ _ _))
  cases hs
 ·rename_i e _ _ _ _ _ _ ht ht'
  obtain ⟨_, _, _, _, _, _, _, _, _, hu⟩ := hT _ _ ht
  have hu : P.underlying t = some (.slice e) := hu
  obtain ⟨_, _, _, _, _, _, _, _, _, hu'⟩ := hT _ _ ht'
  have hu' : P.underlying t' = some .string := hu'
  split at hs
  ·rename_i rows he hr
   cases hb : bytesB rows with
   | false => simp [hb] at hs
   | true =>
    simp only [hb, cond_true, Option.some.injEq] at hs
    subst hs
    have hue : P.underlying e = some (.int .u8) := by
     unfold isU8 at he
     split at he
     ·rename_i hte
      obtain ⟨_, _, _, _, _, _, _, _, _, hue⟩ := hT _ _ hte
      exact hue
     cases he
    obtain ⟨hfl, hlen⟩ := bytesB_flat hb
    rcases rowsOf_rel h ex hr with ⟨hv, hr0⟩ | ⟨ad, cap, vs, hv, hcell, hrel⟩
    ·have hc := run_convert_bytes_nil (P := P) w t e hu hue 0 0 t' hu'
     refine h.value (v := .string (strOfNums (nums rows))) ?_ (.leaf _ _ rfl (.str _ _))
     subst hr0
     have : strOfNums (nums []) = ByteArray.empty := rfl
     rw [this]
     simp [execOp, ho, hv, hc]
    have hvs : vs = (nums rows).map (Value.int .u8) := by
     rw [hfl] at hrel
     rcases hrel with ⟨F, hR⟩ | hR
     ·exact relL_u8 hR
     ·exact relSL_u8 hR
    have hl : (loadCells ad rows.length).run P w = .ok ((nums rows).map (Value.int .u8)).toArray w := by
     have := run_loadCells_list (P := P) w ad vs hcell
     rw [hvs] at this
     simpa [hlen] using this
    have hc : (convert t t' (.slice (some ad) rows.length cap)).run P w = .ok (.string (strOfNums (nums rows))) w := by
     rw [run_convert_bytes_string w t t' e (some ad) rows.length cap hu hue hu', run_bytesToString w ad rows.length cap (nums rows) hl, foldl_push_bytes]
     simp [strOfNums, ByteArray.empty, ByteArray.emptyWithCapacity]
     rfl
    exact h.value (by simp [execOp, ho, hv, hc]) (.leaf _ _ rfl (.str _ _))
  cases hs
 cases hs
theorem goes_index (hT : TyOk P T) (h : Sim B W0 I0 I val fs σ a w) {t : TypeId} {x ix : Operand} (ho : o.op = .index t x ix) (hs : stIndex T σ o.dst t (σ.get x) (σ.get ix) = some σ') : Goes P B W0 I0 o a w σ' := by
 have ex := h.eval x
 have ey := h.eval ix
 unfold stIndex at hs
 split at hs
 ·rename_i sz0 by0 z0 s k i ht hx hi
  rw [hx] at ex
  rw [hi] at ey
  have ex := rel_str ex
  have ey := rel_int ey
  obtain ⟨_, _, _, _, _, _, _, _, _, hu⟩ := hT _ _ ht
  have hu : P.underlying t = some .string := hu
  split at hs
  ·rename_i hb
   simp only [Bool.and_eq_true, decide_eq_true_eq] at hb
   simp only [Option.some.injEq] at hs
   subst hs
   have hlt : i.toNat < s.size := by omega
   have hr := run_index_string (P := P) (w := w) t s k i hu
   rw [dif_pos hb] at hr
   have hv : byteAt s i = ((s[i.toNat]'hlt).toNat : Int) := by simp only [byteAt, ByteArray.getElem?_lt' s _ hlt]
   rw [hv]
   exact h.value (by simp [execOp, ho, ex, ey, hr]) (.leaf _ _ rfl (.int _ _ _))
  cases hs
 cases hs
theorem aopQ_sound (hT : TyOk P T) (h : Sim B W0 I0 I val fs σ a w) {K : St → Prop} {next : Act → World → Prop} {Q : Exit → Act → World → Prop}
  (hk : ∀ σ' a' w', SimE B W0 I0 σ' a' w' → K σ' → next a' w') (ha : aopQ T o K σ) : o.wp P a w next Q := by
 obtain ⟨op, t, x, y, t', e, sz0, by0, z0, rows, ho, ht, hy, hr, hK⟩ := ha
 obtain ⟨_, _, _, _, _, _, _, _, _, hu⟩ := hT _ _ ht
 have hu : P.underlying t = some (.slice e) := hu
 have ex := h.eval x
 have ey := h.eval y
 rw [hy] at ey
 have hyv : a.eval y = .slice none 0 0 := by
  generalize a.eval y = v at ey
  cases ey with
  | leaf c v hl h => cases h; rfl
 obtain ⟨ad, n, cap, hv, hnil⟩ : ∃ ad n cap, a.eval x = .slice ad n cap ∧ (ad = none → rows = []) := by
  rcases rowsOf_rel h ex hr with ⟨hv, hr0⟩ | ⟨ad, cap, vs, hv, _⟩
  ·exact ⟨none, 0, 0, hv, fun _ => hr0⟩
  exact ⟨some ad, _, cap, hv, fun h => by cases h⟩
 have hg : ∀ op', (eqGuard op' t x y (.slice ad n cap) (.slice none 0 0)).run P w = .ok () w := by
  intro op'
  unfold eqGuard
  split <;> simp
 rcases hK with ⟨rfl, hK⟩ | ⟨rfl, hK⟩
 ·have hb : (Go.binOp .eql t (.slice ad n cap) (.slice none 0 0)).run P w = .ok (.bool ad.isNone) w := by
   simp [Go.binOp, run_equal_slice_nil w t e ad n cap hu]
  refine Goes.wp (h.value (v := .bool ad.isNone) ?_ (.leaf _ _ rfl (.bool _ _))) fun a' w' hS => hk _ _ _ hS (hK ad.isNone fun hn => hnil (by simpa using hn))
  simp only [execOp, ho, hv, hyv, Sem.run_bind, hg, Result.andThen_ok, hb, Sem.run_pure]
 have hb := run_neq_slice_nil (P := P) w t e ad n cap hu
 refine Goes.wp (h.value (v := .bool (!ad.isNone)) ?_ (.leaf _ _ rfl (.bool _ _))) fun a' w' hS => hk _ _ _ hS (hK (!ad.isNone) fun hn => hnil (by simpa using hn))
 simp only [execOp, ho, hv, hyv, Sem.run_bind, hg, Result.andThen_ok, hb, Sem.run_pure]
end
end Go.Av
