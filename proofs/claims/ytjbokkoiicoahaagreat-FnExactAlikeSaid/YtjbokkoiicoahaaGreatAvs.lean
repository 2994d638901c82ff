/- The state of the abstract walk and the state of Go: what it says of slots and blocks, and the small laws of it. -/
import Derived.Test.YtjbokkoiicoahaaGreatAvr
namespace Go.Av
open Go Go.RowKit
set_option linter.unusedVariables false
def baseOf : Value → Option Nat
 | .pointer (some a) => some a.block
 | .slice (some a) _ _ => some a.block
 | _ => none
mutual
inductive RelS (w : World) (I : Ft) (val : Nat → Value) (bl : List (Nat × Blk)) : PV → Value → Prop
 | leaf (c : PV) (v : Value) (hl : leafB c = true) (h : RelV w I c v none') : RelS w I val bl c v
 | own (d : Nat) (b : Blk) (hb : blk bl d = some b) (hk : b.k ≠ .var) : RelS w I val bl (.own d) (val d)
 | pt (d i j : Nat) (b : Blk) (g : Nat) (hb : blk bl d = some b) (hg : baseOf (val d) = some g) : RelS w I val bl (.pt d i j) (.pointer (some ⟨g, i * b.sz + j, none⟩))
 | rd (cs : List PV) (a : Addr) (vs : List Value) (hI : ¬ cs = [] → I a.block) (hs : a.spot = none) (hc : ∀ (j : Nat) (u : Value), vs[j]? = some u → w.cell? (a.add j) = some u)
   (hr : RelL w I cs vs none') : RelS w I val bl (.rd cs) (.pointer (some a))
 | agg (cs : List PV) (vs : List Value) (h : RelSL w I val bl cs vs) : RelS w I val bl (.agg cs) (.agg vs.toArray)
 | tup (cs : List PV) (vs : List Value) (h : RelSL w I val bl cs vs) : RelS w I val bl (.tup cs) (.tuple vs.toArray)
 | fn (f : FuncId) (cs : List PV) (vs : List Value) (h : RelSL w I val bl cs vs) : RelS w I val bl (.fn f cs) (.func (.func f) #[] vs.toArray)
 | bad (v : Value) : RelS w I val bl .bad v
inductive RelSL (w : World) (I : Ft) (val : Nat → Value) (bl : List (Nat × Blk)) : List PV → List Value → Prop
 | nil : RelSL w I val bl [] []
 | cons (c : PV) (l : List PV) (v : Value) (vs : List Value) (h : RelS w I val bl c v) (t : RelSL w I val bl l vs) : RelSL w I val bl (c :: l) (v :: vs)
end
def Ext (bl bl' : List (Nat × Blk)) (val val' : Nat → Value) : Prop :=
 ∀ d b, blk bl d = some b → (∃ b', blk bl' d = some b' ∧ b'.sz = b.sz ∧ b'.k = b.k) ∧ val' d = val d
theorem Ext.refl (bl : List (Nat × Blk)) (val : Nat → Value) : Ext bl bl val val := fun _ b h => ⟨⟨b, h, rfl, rfl⟩, rfl⟩
mutual
theorem RelS.frame {w w' : World} {I I' : Ft} {val val' : Nat → Value} {bl bl' : List (Nat × Blk)} (hI : SameOn I w w') (hII : ∀ b, I b → I' b) (hE : Ext bl bl' val val') :
  ∀ {c : PV} {v : Value}, RelS w I val bl c v → RelS w' I' val' bl' c v
 | _, _, .leaf c v hl h => .leaf c v hl (RelV.frame hI hII h (fun _ h => h.elim))
 | _, _, .own d b hb hk => by
  obtain ⟨⟨b', hb', _, hk'⟩, hv⟩ := hE d b hb
  rw [← hv]
  exact .own d b' hb' (by rw [hk']; exact hk)
 | _, _, .pt d i j b g hb hg => by
  obtain ⟨⟨b', hb', hs, _⟩, hv⟩ := hE d b hb
  rw [← hs]
  exact .pt d i j b' g hb' (by rw [hv]; exact hg)
 | _, _, .rd cs a vs hb hs hc hr => by
  refine .rd cs a vs (fun h => hII _ (hb h)) hs ?_ (RelL.frame hI hII hr (fun _ h => h.elim))
  intro j u hj
  by_cases hcs : cs = []
  ·subst hcs
   have := hr.len
   simp at this
   subst this
   simp at hj
  rw [hI.cell (by rw [add_block]; exact hb hcs)]; exact hc j u hj
 | _, _, .agg cs vs h => .agg cs vs (RelSL.frame hI hII hE h)
 | _, _, .tup cs vs h => .tup cs vs (RelSL.frame hI hII hE h)
 | _, _, .fn f cs vs h => .fn f cs vs (RelSL.frame hI hII hE h)
 | _, _, .bad v => .bad v
theorem RelSL.frame {w w' : World} {I I' : Ft} {val val' : Nat → Value} {bl bl' : List (Nat × Blk)} (hI : SameOn I w w') (hII : ∀ b, I b → I' b) (hE : Ext bl bl' val val') :
  ∀ {l : List PV} {vs : List Value}, RelSL w I val bl l vs → RelSL w' I' val' bl' l vs
 | _, _, .nil => .nil
 | _, _, .cons c l v vs h t => .cons c l v vs (RelS.frame hI hII hE h) (RelSL.frame hI hII hE t)
end
section
variable {w : World} {I : Ft} {val : Nat → Value} {bl : List (Nat × Blk)}
theorem RelSL.len : ∀ {l : List PV} {vs : List Value}, RelSL w I val bl l vs → vs.length = l.length
 | _, _, .nil => rfl
 | _, _, .cons _ _ _ _ _ t => by simp [t.len]
theorem RelSL.get : ∀ {l : List PV} {vs : List Value}, RelSL w I val bl l vs → ∀ (k : Nat) (dv : Value), RelS w I val bl (getL l k) (vs.getD k dv)
 | _, _, .nil, k, dv => by cases k <;> exact .bad _
 | _, _, .cons c l v vs h t, 0, dv => h
 | _, _, .cons c l v vs h t, k + 1, dv => by simpa [getL] using t.get k dv
theorem setL_length {α : Type} : ∀ (l : List α) (k : Nat) (x : α), (setL l k x).length = l.length
 | [], _, _ => rfl
 | _ :: _, 0, _ => rfl
 | _ :: l, k + 1, x => by simp [setL, setL_length l k x]
theorem setL_eq {α : Type} : ∀ (l : List α) (k : Nat) (x : α), setL l k x = l.set k x
 | [], _, _ => rfl
 | _ :: _, 0, _ => rfl
 | _ :: l, k + 1, x => by simp [setL, setL_eq l k x]
theorem RelSL.set : ∀ {l : List PV} {vs : List Value}, RelSL w I val bl l vs → ∀ (k : Nat) {c : PV} {v : Value}, RelS w I val bl c v → RelSL w I val bl (setL l k c) (vs.set k v)
 | _, _, .nil, _, _, _, _ => .nil
 | _, _, .cons c l v vs h t, 0, _, _, hc => .cons _ _ _ _ hc t
 | _, _, .cons c l v vs h t, k + 1, _, _, hc => .cons _ _ _ _ h (t.set k hc)
theorem RelSL.append : ∀ {l l' : List PV} {vs vs' : List Value}, RelSL w I val bl l vs → RelSL w I val bl l' vs' → RelSL w I val bl (l ++ l') (vs ++ vs')
 | _, _, _, _, .nil, h => h
 | _, _, _, _, .cons c l v vs h t, h' => .cons _ _ _ _ h (t.append h')
theorem RelSL.drop : ∀ {l : List PV} {vs : List Value}, RelSL w I val bl l vs → ∀ (k : Nat), RelSL w I val bl (l.drop k) (vs.drop k)
 | _, _, h, 0 => h
 | _, _, .nil, _ + 1 => .nil
 | _, _, .cons c l v vs h t, k + 1 => t.drop k
theorem RelL.drop : ∀ {l : List PV} {vs : List Value} {F : Ft}, RelL w I l vs F → ∀ (k : Nat), RelL w I (l.drop k) (vs.drop k) F
 | _, _, _, h, 0 => h
 | _, _, _, .nil F, _ + 1 => .nil F
 | _, _, _, .cons c l v vs F G H h t hF hG d, k + 1 => (t.drop k).mono hG
end
def CellsR (w : World) (I : Ft) (val : Nat → Value) (bl : List (Nat × Blk)) (sz : Nat) (r : List PV) (g : Nat) (F : Ft) : Prop :=
 ∃ T c, F g ∧ w.heap[g]? = some (.cells c T (0, 0)) ∧ RelSL w I val bl r c.toList ∧ r.length = sz ∧ ∀ u ∈ c.toList, u.oneCell' = true
def ArrR (w : World) (I : Ft) (sz : Nat) (rows : List (List PV)) (v : Value) (F : Ft) : Prop :=
 ∃ e xs G, (∀ r ∈ rows, r.length = sz) ∧ OwnsW w 0 e sz v rows.length xs ∧ RelL w I rows.flatten xs G ∧ (∀ b, G b → F b) ∧ (∀ b, v.ownBlock = some b → F b ∧ ¬ G b)
def BlkR (w : World) (I : Ft) (val : Nat → Value) (bl : List (Nat × Blk)) : Blk → Value → Ft → Prop
 | ⟨.var, sz, [r]⟩, v, F => ∃ g, v = .pointer (some ⟨g, 0, none⟩) ∧ CellsR w I val bl sz r g F
 | ⟨.lit, sz, [r]⟩, v, F => ∃ g, v = .slice (some ⟨g, 0, none⟩) 1 1 ∧ 0 < sz ∧ CellsR w I val bl sz r g F
 | ⟨.arr, sz, rows⟩, v, F => ArrR w I sz rows v F
 | _, _, _ => False
structure Kept (B : Ft) (w w' : World) : Prop where
 os : w'.os = w.os
 tape : w'.tape = w.tape
 output : w'.output = w.output
 size : w.heap.size ≤ w'.heap.size
 block : ∀ k, ¬ B k → w'.heap[k]? = w.heap[k]?
theorem Kept.refl (B : Ft) (w : World) : Kept B w w := ⟨rfl, rfl, rfl, Nat.le_refl _, fun _ _ => rfl⟩
theorem Kept.trans {B : Ft} {a b c : World} (h : Kept B a b) (k : Kept B b c) : Kept B a c :=
 ⟨k.os.trans h.os, k.tape.trans h.tape, k.output.trans h.output, Nat.le_trans h.size k.size, fun i hi => (k.block i hi).trans (h.block i hi)⟩
theorem Kept.mono {B B' : Ft} {w w' : World} (h : Kept B w w') (hB : ∀ x, B x → B' x) : Kept B' w w' := ⟨h.os, h.tape, h.output, h.size, fun k hk => h.block k fun hb => hk (hB k hb)⟩
theorem Kept.below {B : Ft} {w w' : World} (h : Below w.heap.size w w') (hB : ∀ x, w.heap.size ≤ x → B x) : Kept B w w' :=
 ⟨h.os, h.tape, h.output, h.size, fun k hk => h.block k (Nat.lt_of_not_le fun hb => hk (hB k hb))⟩
theorem Kept.below' {w w' : World} (h : Kept (fun x => w.heap.size ≤ x) w w') : Below w.heap.size w w' :=
 ⟨h.os, h.tape, h.output, h.size, fun k hk => h.block k (Nat.not_le_of_lt hk)⟩
structure Sim (B : Ft) (W0 : World) (I0 : Ft) (I : Ft) (val : Nat → Value) (fs : Nat → Ft) (σ : St) (a : Act) (w : World) : Prop where
 slots : RelSL w I val σ.bl σ.sl a.tmps.toList
 blocks : ∀ d b, blk σ.bl d = some b → BlkR w I val σ.bl b (val d) (fs d)
 disj : ∀ d d' b b', blk σ.bl d = some b → blk σ.bl d' = some b' → d ≠ d' → ∀ x, fs d x → ¬ fs d' x
 imm : ∀ d b, blk σ.bl d = some b → ∀ x, fs d x → ¬ I x
 new : ∀ d b, blk σ.bl d = some b → ∀ x, fs d x → B x ∧ x < w.heap.size
 lt : ∀ x, I x → x < w.heap.size
 old : ∀ x, I x → I0 x ∨ B x
 below : Kept B W0 w
 size : ∀ x, w.heap.size ≤ x → B x
 heads : ∀ d v, lookV σ.hd d = some v → val d = v ∧ ∃ b, blk σ.bl d = some b
 defers : a.defers = []
def SimE (B : Ft) (W0 : World) (I0 : Ft) (σ : St) (a : Act) (w : World) : Prop := ∃ I val fs, Sim B W0 I0 I val fs σ a w
theorem ofVal_rel {w : World} {I : Ft} {val : Nat → Value} {bl : List (Nat × Blk)} (v : Value) : RelS w I val bl (ofVal v) v := by
 unfold ofVal
 split
 ·exact .leaf _ _ rfl (.int _ _ _)
 ·exact .leaf _ _ rfl (.bool _ _)
 ·exact .leaf _ _ rfl (.str _ _)
 ·exact .leaf _ _ rfl (.zc _)
 exact .bad _
section
variable {B : Ft} {W0 : World} {I0 : Ft} {I : Ft} {val : Nat → Value} {fs : Nat → Ft} {σ : St} {a : Act} {w : World}
theorem Sim.eval (h : Sim B W0 I0 I val fs σ a w) (x : Operand) : RelS w I val σ.bl (σ.get x) (a.eval x) := by
 cases x with
 | tmp t =>
  have := h.slots.get t undef
  simpa [St.get, Act.eval] using this
 | const v => exact ofVal_rel v
 | global g => exact .bad _
 | func f => exact .fn f [] [] .nil
theorem put_toList (a : Act) (d : Nat) (v : Value) : (a.put (some d) v).tmps.toList = a.tmps.toList.set d v := by
 simp [Act.put]
theorem Sim.put (h : Sim B W0 I0 I val fs σ a w) (dst : Option Tmp) {c : PV} {v : Value} (hc : RelS w I val σ.bl c v) : Sim B W0 I0 I val fs (σ.put dst c) (a.put dst v) w := by
 cases dst with
 | none => exact h
 | some d =>
  refine { slots := ?_, blocks := h.blocks, disj := h.disj, imm := h.imm, new := h.new, lt := h.lt, old := h.old, below := h.below, size := h.size, heads := h.heads, defers := h.defers }
  rw [put_toList]
  exact h.slots.set d hc
end
end Go.Av
