/- Structs of numbers, flags and texts alone, compared. -/
import Derived.Test.YtjbokkoiicoahaaGreatAvs
import Derived.Laws.StructEq
namespace Go.Av
open Go Go.RowKit
set_option linter.unusedVariables false
set_option linter.unusedSimpArgs false
def toVal : PV → Value
 | .int k n => .int k n
 | .bool b => .bool b
 | .str s => .string s
 | _ => undef
def numB : PV → Bool
 | .int _ _ | .bool _ | .str _ => true
 | _ => false
theorem sameK_len : ∀ {z l : List PV}, sameK z l = true → l.length = z.length
 | [], [], _ => rfl
 | c :: z, d :: l, h => by simp only [sameK, Bool.and_eq_true] at h; simp [sameK_len h.2]
 | [], _ :: _, h => by cases h
 | _ :: _, [], h => by cases h
theorem sameK_take : ∀ {z l : List PV} (n : Nat), sameK z l = true → sameK (z.take n) (l.take n) = true
 | _, _, 0, _ => by simp [sameK]
 | [], [], n + 1, _ => rfl
 | c :: z, d :: l, n + 1, h => by simp only [sameK, Bool.and_eq_true, List.take_succ_cons] at h ⊢; exact ⟨h.1, sameK_take n h.2⟩
 | [], _ :: _, _ + 1, h => by cases h
 | _ :: _, [], _ + 1, h => by cases h
theorem sameK_drop : ∀ {z l : List PV} (n : Nat), sameK z l = true → sameK (z.drop n) (l.drop n) = true
 | _, _, 0, h => h
 | [], [], n + 1, _ => rfl
 | c :: z, d :: l, n + 1, h => by simp only [sameK, Bool.and_eq_true, List.drop_succ_cons] at h ⊢; exact sameK_drop n h.2
 | [], _ :: _, _ + 1, h => by cases h
 | _ :: _, [], _ + 1, h => by cases h
theorem pvEqL_append : ∀ {a a' b b' : List PV}, a.length = a'.length → pvEqL (a ++ b) (a' ++ b') = (pvEqL a a' && pvEqL b b')
 | [], [], _, _, _ => by simp [pvEqL]
 | c :: a, d :: a', b, b', h => by
  simp only [List.cons_append, pvEqL, pvEqL_append (a := a) (a' := a') (by simpa using h), Bool.and_assoc]
 | [], _ :: _, _, _, h => by simp at h
 | _ :: _, [], _, _, h => by simp at h
mutual
def flatB (P : Program) : Nat → TypeId → List PV → Bool
  | 0, _, _ => false
  | n + 1, t, zs => match P.underlying t with
    | some (.int k) => match zs with | [.int k' _] => kindB k k' | _ => false
    | some .bool => match zs with | [.bool _] => true | _ => false
    | some .string => match zs with | [.str _] => true | _ => false
    | some (.struct fs) => !P.stoodInHeld t && flatF P n fs.toList 0 zs
    | _ => false
def flatF (P : Program) : Nat → List Field → Nat → List PV → Bool
  | _, [], _, zs => zs.isEmpty
  | 0, _ :: _, _, _ => false
  | n + 1, f :: fs, off, zs => f.name != "_" && nq f.offset off && (match P.info? f.type with
    | some i => nle i.size zs.length && flatB P n f.type (zs.take i.size) && flatF P n fs (off + i.size) (zs.drop i.size)
    | none => false)
end
def isStr (P : Program) (t : TypeId) : Bool := match P.underlying t with | some (.struct _) => true | _ => false
def valOf (P : Program) (t : TypeId) (l : List PV) : Value := match isStr P t with | true => .agg (l.map toVal).toArray | false => toVal (getL l 0)
def CmpAt (P : Program) (t : TypeId) (zs : List PV) (n : Nat) : Prop := ∀ (d : Nat) (w : World) (l l' : List PV), n ≤ d → sameK zs l = true → sameK zs l' = true → (Op.equalIn d t (valOf P t l) (valOf P t l')).run P w = .ok (pvEqL l l') w
theorem one_cell {z : PV} {l : List PV} (h : sameK [z] l = true) : ∃ c, l = [c] ∧ sameK1 z c = true := by
 cases l with
 | nil => cases h
 | cons c l =>
  cases l with
  | nil => simp only [sameK, Bool.and_eq_true] at h; exact ⟨c, rfl, h.1⟩
  | cons d l => simp [sameK] at h
mutual
theorem flatB_ok {P : Program} : ∀ (n : Nat) (t : TypeId) (zs : List PV), flatB P n t zs = true → CmpAt P t zs n
 | 0, _, _, h => by cases h
 | n + 1, t, zs, h => by
  intro d w l l' hd hl hl'
  obtain ⟨d, rfl⟩ : ∃ e, d = e + 1 := ⟨d - 1, by omega⟩
  unfold flatB at h
  split at h
  ·rename_i k hu
   split at h
   ·rename_i k' m
    obtain ⟨c, rfl, hc⟩ := one_cell hl
    obtain ⟨c', rfl, hc'⟩ := one_cell hl'
    have hs : isStr P t = false := by simp [isStr, hu]
    cases c <;> simp [sameK1] at hc
    cases c' <;> simp [sameK1] at hc'
    have e1 := of_decide_eq_true hc
    have e2 := of_decide_eq_true hc'
    subst e1; subst e2
    simp only [valOf, hs, getL, toVal, pvEqL, pvEq, Bool.and_true]
    exact run_equalIn_int w d t _ _ _ _ hu
   cases h
  ·rename_i hu
   split at h
   ·obtain ⟨c, rfl, hc⟩ := one_cell hl
    obtain ⟨c', rfl, hc'⟩ := one_cell hl'
    have hs : isStr P t = false := by simp [isStr, hu]
    cases c <;> simp [sameK1] at hc
    cases c' <;> simp [sameK1] at hc'
    simp only [valOf, hs, getL, toVal, pvEqL, pvEq, Bool.and_true]
    exact run_equalIn_bool' w d t _ _ hu
   cases h
  ·rename_i hu
   split at h
   ·obtain ⟨c, rfl, hc⟩ := one_cell hl
    obtain ⟨c', rfl, hc'⟩ := one_cell hl'
    have hs : isStr P t = false := by simp [isStr, hu]
    cases c <;> simp [sameK1] at hc
    cases c' <;> simp [sameK1] at hc'
    simp only [valOf, hs, getL, toVal, pvEqL, pvEq, Bool.and_true]
    exact run_equalIn_string w d t _ _ hu
   cases h
  ·rename_i fs hu
   simp only [Bool.and_eq_true, Bool.not_eq_true'] at h
   have hs : isStr P t = true := by simp [isStr, hu]
   have hf : P.fieldsOf t = fs := by simp [Program.fieldsOf, hu]
   simp only [valOf, hs]
   rw [run_equalIn_struct w d t _ _ (by rw [hf]; exact hu) h.1, hf]
   have := flatF_ok n fs.toList 0 zs h.2 d w l l' (by omega) (by simpa using hl) (by simpa using hl')
   simpa using this
  cases h
theorem flatF_ok {P : Program} : ∀ (n : Nat) (fs : List Field) (off : Nat) (zs : List PV), flatF P n fs off zs = true → ∀ (d : Nat) (w : World) (l l' : List PV), n ≤ d → sameK zs (l.drop off) = true → sameK zs (l'.drop off) = true →
  (Op.eqFields d (l.map toVal).toArray (l'.map toVal).toArray fs).run P w = .ok (pvEqL (l.drop off) (l'.drop off)) w
 | n, [], off, zs, h, d, w, l, l', hd, hl, hl' => by
  have hz : zs = [] := by simpa [flatF] using h
  subst hz
  have e1 : l.drop off = [] := List.eq_nil_of_length_eq_zero (sameK_len hl)
  have e2 : l'.drop off = [] := List.eq_nil_of_length_eq_zero (sameK_len hl')
  rw [e1, e2]
  simp [Op.eqFields, pvEqL]
 | 0, _ :: _, _, _, h, _, _, _, _, _, _, _ => by simp [flatF] at h
 | n + 1, f :: fs, off, zs, h, d, w, l, l', hd, hl, hl' => by
  simp only [flatF, Bool.and_eq_true] at h
  obtain ⟨⟨h1, h2⟩, h3⟩ := h
  split at h3
  case h_2 => cases h3
  rename_i i hi
  simp only [Bool.and_eq_true] at h3
  obtain ⟨⟨hsz, h4⟩, h5⟩ := h3
  have hsz := nle_le hsz
  have h2 := nq_eq h2
  have hname : f.name ≠ "_" := by simpa using h1
  have hll := sameK_len hl
  have hll' := sameK_len hl'
  have head := flatB_ok n f.type (zs.take i.size) h4 d w ((l.drop off).take i.size) ((l'.drop off).take i.size) (by omega) (sameK_take _ hl) (sameK_take _ hl')
  have rest := flatF_ok n fs (off + i.size) (zs.drop i.size) h5 d w l l' (by omega) (by rw [← List.drop_drop]; exact sameK_drop _ hl) (by rw [← List.drop_drop]; exact sameK_drop _ hl')
  have hpart : ∀ m : List PV, sameK zs (m.drop off) = true → (part f.type (m.map toVal).toArray f.offset).run P w = .ok (valOf P f.type ((m.drop off).take i.size)) w := by
   intro m hm
   have hml := sameK_len hm
   simp only [List.length_drop] at hml
   have hstruct : ∀ gs, P.underlying f.type = some (.struct gs) → (part f.type (m.map toVal).toArray f.offset).run P w = .ok (valOf P f.type ((m.drop off).take i.size)) w := by
    intro gs hu
    have hag : (isAgg f.type).run P w = .ok true w := by simp [isAgg, run_underlying hu]
    have hs : isStr P f.type = true := by simp [isStr, hu]
    have hex : (m.map toVal).toArray.extract f.offset (f.offset + i.size) = (((m.drop off).take i.size).map toVal).toArray := by
     apply Array.ext'
     simp only [Array.toList_extract, List.extract_eq_take_drop, h2]
     rw [← List.map_drop, ← List.map_take]
     congr 2
     omega
    simp only [part, Sem.run_bind, hag, Result.andThen_ok, if_true, sizeOf, typeInfo, hi, Sem.run_pure, program, Sem.run, valOf, hs, hex]
   have hone : ∀ k, P.underlying f.type = some k → (∀ gs, k ≠ .struct gs) → (∀ a b, k ≠ .array a b) → (∃ z, zs.take i.size = [z]) → (part f.type (m.map toVal).toArray f.offset).run P w = .ok (valOf P f.type ((m.drop off).take i.size)) w := by
    intro k hu hns hna ⟨z, hz⟩
    have hag : (isAgg f.type).run P w = .ok false w := by
     simp only [isAgg, Sem.run_bind, run_underlying hu, Result.andThen_ok]
     cases k <;> first | rfl | exact absurd rfl (hns _) | exact absurd rfl (hna _ _)
    have hs : isStr P f.type = false := by
     simp only [isStr, hu]
     cases k <;> first | rfl | exact absurd rfl (hns _)
    have hz1 : (zs.take i.size).length = 1 := by rw [hz]; rfl
    simp only [List.length_take] at hz1
    have hlt : off < m.length := by omega
    have hget : (m.map toVal).toArray[f.offset]? = some (toVal (getL ((m.drop off).take i.size) 0)) := by
     rw [h2, List.getElem?_toArray, List.getElem?_map, List.getElem?_eq_getElem hlt, List.drop_eq_getElem_cons hlt]
     obtain ⟨s, hs'⟩ : ∃ s, i.size = s + 1 := ⟨i.size - 1, by omega⟩
     rw [hs', List.take_succ_cons]
     rfl
    simp only [part, Sem.run_bind, hag, Result.andThen_ok, Bool.false_eq_true, if_false, hget, Sem.run_pure, valOf, hs]
   cases n with
   | zero => cases h4
   | succ n =>
    unfold flatB at h4
    split at h4
    ·rename_i k hu
     split at h4
     ·rename_i k' m' hz; exact hone _ hu (fun _ h => by cases h) (fun _ _ h => by cases h) ⟨_, hz⟩
     cases h4
    ·rename_i hu
     split at h4
     ·rename_i b hz; exact hone _ hu (fun _ h => by cases h) (fun _ _ h => by cases h) ⟨_, hz⟩
     cases h4
    ·rename_i hu
     split at h4
     ·rename_i b hz; exact hone _ hu (fun _ h => by cases h) (fun _ _ h => by cases h) ⟨_, hz⟩
     cases h4
    ·rename_i gs hu; exact hstruct gs hu
    cases h4
  simp only [Op.eqFields]
  rw [if_pos hname]
  simp only [Sem.run_bind, hpart l hl, hpart l' hl', Result.andThen_ok, head]
  have split' : ∀ m : List PV, m.drop off = (m.drop off).take i.size ++ m.drop (off + i.size) := fun m => by rw [← List.drop_drop, List.take_append_drop]
  rw [split' l, split' l', pvEqL_append (by simp only [List.length_take, List.length_drop] at hll hll' ⊢; omega)]
  have e1 : (List.take i.size (List.drop off l) ++ List.drop (off + i.size) l) = List.drop off l := (split' l).symm
  have e2 : (List.take i.size (List.drop off l') ++ List.drop (off + i.size) l') = List.drop off l' := (split' l').symm
  rw [e1, e2]
  cases pvEqL ((l.drop off).take i.size) ((l'.drop off).take i.size) with
  | false => simp
  | true => simp [rest]
end
def FlatCmp (P : Program) (t : TypeId) (zs : List PV) : Prop := ∀ (w : World) (l l' : List PV), sameK zs l = true → sameK zs l' = true → (Op.equal t (.agg (l.map toVal).toArray) (.agg (l'.map toVal).toArray)).run P w = .ok (pvEqL l l') w
theorem flat_cmp {P : Program} {t : TypeId} {zs : List PV} (hs : isStr P t = true) (h : flatB P 20 t zs = true) : FlatCmp P t zs := by
 intro w l l' hl hl'
 have := flatB_ok 20 t zs h Op.maxDepth w l l' (by decide) hl hl'
 unfold Op.equal
 simpa only [valOf, hs] using this
theorem sameK_num : ∀ {z l : List PV}, sameK z l = true → ∀ c ∈ l, numB c = true
 | [], [], _, c, hc => by simp at hc
 | z :: zs, d :: l, h, c, hc => by
  simp only [sameK, Bool.and_eq_true] at h
  rcases List.mem_cons.1 hc with rfl | hc
  ·cases z <;> cases c <;> simp [sameK1] at h <;> rfl
  exact sameK_num h.2 c hc
 | [], _ :: _, h, _, _ => by cases h
 | _ :: _, [], h, _, _ => by cases h
end Go.Av
