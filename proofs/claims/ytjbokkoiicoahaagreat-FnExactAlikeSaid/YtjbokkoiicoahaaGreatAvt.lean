/- What a program's types are: checked by evaluation. -/
import Derived.Test.YtjbokkoiicoahaaGreatAvp
namespace Go.Av
open Go Go.RowKit
set_option linter.unusedVariables false
set_option linter.unusedSimpArgs false
def relB : List PV → List Value → Bool
 | [], [] => true
 | .int k n :: l, .int k' n' :: vs => decide (k = k') && decide (n = n') && relB l vs
 | .bool b :: l, .bool b' :: vs => (b == b') && relB l vs
 | .str s :: l, .string s' :: vs => decide (s.data = s'.data) && relB l vs
 | .zc :: l, .slice none 0 0 :: vs => relB l vs
 | _, _ => false
theorem relB_rel : ∀ (l : List PV) (vs : List Value), relB l vs = true → ∀ w I, RelL w I l vs none' := by
  intro l vs
  induction l generalizing vs with
  | nil => intro h w I; cases vs with
    | nil => exact .nil _
    | cons v vs => simp [relB] at h
  | cons c l ih =>
    intro h w I
    cases vs with
    | nil => cases c <;> simp [relB] at h
    | cons v vs =>
      unfold relB at h
      split at h
      · rename_i h1 h2; cases h1
      · rename_i k n l' k' n' vs' h1 h2
        cases h1; cases h2
        simp only [Bool.and_eq_true, decide_eq_true_eq] at h
        obtain ⟨⟨rfl, rfl⟩, h⟩ := h
        exact .cons _ _ _ _ none' none' _ (.int _ _ _) (ih _ h w I) (fun _ h => h) (fun _ h => h) (fun _ h => h.elim)
      · rename_i b l' b' vs' h1 h2
        cases h1; cases h2
        simp only [Bool.and_eq_true, beq_iff_eq] at h
        obtain ⟨rfl, h⟩ := h
        exact .cons _ _ _ _ none' none' _ (.bool _ _) (ih _ h w I) (fun _ h => h) (fun _ h => h) (fun _ h => h.elim)
      · rename_i s l' s' vs' h1 h2
        cases h1; cases h2
        simp only [Bool.and_eq_true, decide_eq_true_eq] at h
        obtain ⟨hs, h⟩ := h
        obtain ⟨s⟩ := s
        obtain ⟨s'⟩ := s'
        simp only at hs
        subst hs
        exact .cons _ _ _ _ none' none' _ (.str _ _) (ih _ h w I) (fun _ h => h) (fun _ h => h) (fun _ h => h.elim)
      · rename_i l' vs' h1 h2
        cases h1; cases h2
        exact .cons _ _ _ _ none' none' _ (.zc _) (ih _ h w I) (fun _ h => h) (fun _ h => h) (fun _ h => h.elim)
      · cases h
def kindOkB (P : Program) (t : TypeId) (z : List PV) (k : TK) : Bool :=
 match k, P.underlying t with
 | .int k, some (.int k') => decide (k = k')
 | .bool, some .bool => true
 | .str, some .string => true
 | .slice e, some (.slice e') => decide (e = e')
 | .struct fs fl, some (.struct fields) => decide (fields.toList.mapM (fun f => (P.info? f.type).map fun i => (f.offset, i.size)) = some fs) && (!fl || (!P.eqGuardType P.depth t && (isStr P t && flatB P 20 t z)))
 | _, _ => false
theorem kindOkB_ok {P : Program} {t : TypeId} {z : List PV} {k : TK} (h : kindOkB P t z k = true) : KindOk P t z k := by
 unfold kindOkB at h
 split at h
 ·rename_i k k' hu; simp only [decide_eq_true_eq] at h; subst h; exact hu
 ·rename_i hu; exact hu
 ·rename_i hu; exact hu
 ·rename_i e e' hu; simp only [decide_eq_true_eq] at h; subst h; exact hu
 ·rename_i fs fl fields hu
  simp only [Bool.and_eq_true, decide_eq_true_eq] at h
  refine ⟨fields, hu, h.1, fun hf => ?_⟩
  have h2 := h.2
  subst hf
  simp only [Bool.not_true, Bool.false_or, Bool.and_eq_true, Bool.not_eq_true'] at h2
  exact ⟨h2.1, flat_cmp h2.2.1 h2.2.2⟩
 cases h
def tyB (P : Program) (t : TypeId) (i : TI) : Bool :=
  match P.info? t with
  | some inf => match inf.zero with
    | some z => nq inf.size i.size && nq inf.bytes i.bytes && relB i.zero z.cells.toList && nq i.zero.length i.size && allB leafB i.zero && kindOkB P t i.zero i.kind
    | none => false
  | none => false
theorem tyB_ok {P : Program} {t : TypeId} {i : TI} (h : tyB P t i = true) : TyFact P t i := by
 unfold tyB at h
 split at h
 case h_2 => cases h
 rename_i inf hi
 split at h
 case h_2 => cases h
 rename_i z hz
 simp only [Bool.and_eq_true] at h
 obtain ⟨⟨⟨⟨⟨h1, h2⟩, h3⟩, h4⟩, h5⟩, h6⟩ := h
 exact ⟨inf, z, hi, nq_eq h1, nq_eq h2, hz, relB_rel _ _ h3, nq_eq h4, h5, kindOkB_ok h6⟩
def lookT : List (Nat × TI) → Nat → Option TI
 | [], _ => none
 | (e, i) :: l, t => bif nq e t then some i else lookT l t
def tysB (P : Program) : List (Nat × TI) → Bool
 | [] => true
 | (t, i) :: l => tyB P t i && tysB P l
theorem tysB_ok {P : Program} : ∀ (l : List (Nat × TI)), tysB P l = true → TyOk P (lookT l)
 | [], _, t, i, h => by cases h
 | (e, j) :: l, h, t, i, ht => by
  simp only [tysB, Bool.and_eq_true] at h
  simp only [lookT] at ht
  cases hb : nq e t with
  | true =>
   rw [hb] at ht
   have hb := nq_eq hb
   subst hb
   simp only [cond_true, Option.some.injEq] at ht
   subst ht
   exact tyB_ok h.1
  | false => rw [hb] at ht; exact tysB_ok l h.2 t i ht
mutual
def shB (P : Program) (t : TypeId) : Sh → Bool
 | .int k => match P.underlying t with | some (.int k') => decide (k' = k) | _ => false
 | .bool => match P.underlying t with | some .bool => true | _ => false
 | .str => match P.underlying t with | some .string => true | _ => false
 | .slice e s => (match P.underlying t with | some (.slice e') => decide (e' = e) | _ => false) && nq (P.cellsOf e) s.size && nlt 0 s.size && shB P e s
 | .struct fs => (match P.underlying t with | some (.struct fields) => decide (fields.toList.map (fun f => (f.type, f.offset, P.cellsOf f.type)) = fs.lay 0) | _ => false) && nq (P.cellsOf t) fs.size && shsB P fs
def shsB (P : Program) : Shs → Bool
 | .nil => true
 | .cons t s l => shB P t s && shsB P l
end
mutual
theorem shB_ok {P : Program} : ∀ (t : TypeId) (s : Sh), shB P t s = true → ShOk P t s
 | t, .int k, h => by
  simp only [shB] at h
  split at h
  ·rename_i k' hu; simp only [decide_eq_true_eq] at h; subst h; exact hu
  cases h
 | t, .bool, h => by
  simp only [shB] at h
  split at h
  ·rename_i hu; exact hu
  cases h
 | t, .str, h => by
  simp only [shB] at h
  split at h
  ·rename_i hu; exact hu
  cases h
 | t, .slice e s, h => by
  simp only [shB, Bool.and_eq_true] at h
  obtain ⟨⟨⟨h1, h2⟩, h3⟩, h4⟩ := h
  split at h1
  ·rename_i e' hu
   simp only [decide_eq_true_eq] at h1
   subst h1
   exact ⟨hu, nq_eq h2, nlt_lt h3, shB_ok _ s h4⟩
  cases h1
 | t, .struct fs, h => by
  simp only [shB, Bool.and_eq_true] at h
  obtain ⟨⟨h1, h2⟩, h3⟩ := h
  split at h1
  ·rename_i fields hu
   simp only [decide_eq_true_eq] at h1
   exact ⟨fields, hu, nq_eq h2, h1, shsB_ok fs h3⟩
  cases h1
theorem shsB_ok {P : Program} : ∀ (l : Shs), shsB P l = true → ShsOk P l
 | .nil, _ => trivial
 | .cons t s l, h => by
  simp only [shsB, Bool.and_eq_true] at h
  exact ⟨shB_ok t s h.1, shsB_ok l h.2⟩
end
def allShB (P : Program) : List TypeId → List Sh → Bool
 | [], [] => true
 | t :: ts, s :: ss => shB P t s && allShB P ts ss
 | _, _ => false
theorem allShB_ok {P : Program} : ∀ (ts : List TypeId) (ss : List Sh), allShB P ts ss = true → AllSh P ts ss
 | [], [], _ => trivial
 | [], _ :: _, h => by cases h
 | _ :: _, [], h => by cases h
 | t :: ts, s :: ss, h => by
  simp only [allShB, Bool.and_eq_true] at h
  exact ⟨shB_ok t s h.1, allShB_ok ts ss h.2⟩
theorem real {P : Program} {T : Tys} (hT : TyOk P T) {g : FuncId} {fn : Func} (hf : P.funcs[g]? = some fn) (hn : (fn.name == "runtime.NumGoroutine") = false) {args : List PV} {r : PV} (ha : afun T ⟨Real P, RealM P, RealC P⟩ fn args r) : Real P g args r :=
 afun_sound hT ⟨fun _ _ _ h => h, fun _ _ _ _ h => h, fun _ _ _ h => h⟩ hf hn ha
theorem realC {P : Program} {T : Tys} (hT : TyOk P T) {g : FuncId} {fn : Func} (hf : P.funcs[g]? = some fn) (hn : (fn.name == "runtime.NumGoroutine") = false) {args : List PV} {r : PV} (ha : afunC T ⟨Real P, RealM P, RealC P⟩ fn args r) : RealC P g args r :=
 afunC_sound hT ⟨fun _ _ _ h => h, fun _ _ _ _ h => h, fun _ _ _ h => h⟩ hf hn ha
end Go.Av
