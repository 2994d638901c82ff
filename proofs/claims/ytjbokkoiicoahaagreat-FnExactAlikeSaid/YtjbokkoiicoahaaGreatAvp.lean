/- A law that answers true: its row, from what the abstract walk says. -/
import Derived.Test.YtjbokkoiicoahaaGreatAvu
namespace Go.Av
open Go Go.RowKit Go.ChangeShapes
set_option linter.unusedVariables false
set_option linter.unusedSimpArgs false
mutual
theorem Sh.leafs : ∀ (s : Sh) (cs : List PV), s.Is cs → allB leafB cs = true
 | .int k, cs, h => by obtain ⟨n, rfl, _⟩ := h; rfl
 | .bool, cs, h => by obtain ⟨b, rfl⟩ := h; rfl
 | .str, cs, h => by obtain ⟨b, rfl, _⟩ := h; rfl
 | .slice e s, cs, h => by obtain ⟨rows, rfl, _⟩ := h; rfl
 | .struct fs, cs, h => Shs.leafs fs cs h
theorem Shs.leafs : ∀ (l : Shs) (cs : List PV), l.Is cs → allB leafB cs = true
 | .nil, cs, h => by subst h; rfl
 | .cons t s l, cs, h => by
  obtain ⟨c, r, rfl, h1, h2⟩ := h
  have a1 := Sh.leafs s c h1
  have a2 := Shs.leafs l r h2
  clear h1 h2
  induction c with
  | nil => exact a2
  | cons x c ih =>
   simp only [allB, Bool.and_eq_true] at a1
   simp only [List.cons_append, allB, Bool.and_eq_true]
   exact ⟨a1.1, ih a1.2⟩
end
def topPV : Sh → List PV → PV
 | .struct _, cs => .agg cs
 | _, cs => getL cs 0
def ArgsIs : List Sh → List PV → Prop
 | [], l => l = []
 | s :: ss, l => ∃ cs r, s.Is cs ∧ l = topPV s cs :: r ∧ ArgsIs ss r
def AllSh (P : Program) : List TypeId → List Sh → Prop
 | [], [] => True
 | t :: ts, s :: ss => ShOk P t s ∧ AllSh P ts ss
 | _, _ => False
section
variable {P : Program} {H : Type} {enc : TypeId × Value → H} {w W W' : World} {sp : Nat → Bool} {held : Bool}
theorem ok_one_cell {t : TypeId} {v : Value} {r : Reach} {b0 : Nat} (h : Value.okWide P w r b0 t v) (hs : ∀ fs, P.underlying t ≠ some (.struct fs)) (ha : ∀ n e, P.underlying t ≠ some (.array n e)) : Cell.okWide P w r b0 t v := by
 unfold Value.okWide at h
 split at h
 ·rename_i fs hfs; exact absurd hfs (hs _)
 ·rename_i n e hne; exact absurd hne (ha _ _)
 exact h
theorem open_arg (s : Sh) {t : TypeId} {v : Value} {d : DataW H} {ps : List MemPlace} {r : Reach} {b0 : Nat} {val : Nat → Value} (ht : ShOk P t s) (hval : Value.okWide P w r b0 t v) (hd : DataW.Trod enc P w 0 sp held t v d ps) :
  ∃ cs, s.Is cs ∧ RelS w (there w) val [] (topPV s cs) v := by
 obtain ⟨fuel, hd⟩ := hd
 obtain ⟨cs, hR, hIs, hlen⟩ := open_sh s t fuel 0 _ _ ht hd
 refine ⟨cs, hIs, ?_⟩
 have one : v.cells.toList = [v] → (∀ c, cs = [c] → leafB c = true → RelS w (there w) val [] c v) := by
  intro hv c hc hl
  subst hc
  rw [hv] at hR
  cases hR with
  | cons c l v vs F G H h t _ _ _ => exact .leaf _ _ hl (leaf_any hl h)
 cases s with
 | struct fs =>
  obtain ⟨fields, hu, _⟩ := ht
  unfold Value.okWide at hval
  rw [hu] at hval
  obtain ⟨arr, rfl, _⟩ := hval
  exact .agg cs arr.toList (hR.slots (Shs.leafs fs cs hIs))
 | int k =>
  obtain ⟨n, rfl, _⟩ := hIs
  have ht' : P.underlying t = some (.int k) := ht
  have hc := ok_one_cell hval (by rw [ht']; intro _ h; cases h) (by rw [ht']; intro _ _ h; cases h)
  unfold Cell.okWide Cell.ok at hc
  rw [ht'] at hc
  cases v <;> simp at hc
  exact one rfl _ rfl rfl
 | bool =>
  obtain ⟨b, rfl⟩ := hIs
  have ht' : P.underlying t = some .bool := ht
  have hc := ok_one_cell hval (by rw [ht']; intro _ h; cases h) (by rw [ht']; intro _ _ h; cases h)
  unfold Cell.okWide Cell.ok at hc
  rw [ht'] at hc
  cases v <;> simp at hc
  exact one rfl _ rfl rfl
 | str =>
  obtain ⟨b, rfl, _⟩ := hIs
  have ht' : P.underlying t = some .string := ht
  have hc := ok_one_cell hval (by rw [ht']; intro _ h; cases h) (by rw [ht']; intro _ _ h; cases h)
  unfold Cell.okWide Cell.ok at hc
  rw [ht'] at hc
  cases v <;> simp at hc
  exact one rfl _ rfl rfl
 | slice e s =>
  obtain ⟨rows, rfl, _⟩ := hIs
  obtain ⟨ht', _⟩ := ht
  have hc := ok_one_cell hval (by rw [ht']; intro _ h; cases h) (by rw [ht']; intro _ _ h; cases h)
  unfold Cell.okWide Cell.ok at hc
  rw [ht'] at hc
  cases v <;> simp at hc
  exact one rfl _ rfl rfl
theorem open_args {r : Reach} {b0 : Nat} {val : Nat → Value} : ∀ (ss : List Sh) (ts : List TypeId) (vs : List Value) (ds : List (DataW H)) (ps : List MemPlace), AllSh P ts ss →
  (∀ (j : Nat) t v, ts[j]? = some t → vs[j]? = some v → Value.okWide P w r b0 t v) → DataW.TrodAll enc P w 0 sp held ts vs ds ps → ∃ pvs, RelSL w (there w) val [] pvs vs ∧ ArgsIs ss pvs
 | [], [], [], [], ps, _, _, _ => ⟨[], .nil, rfl⟩
 | [], [], _ :: _, _, ps, _, _, h => h.elim
 | [], [], [], _ :: _, ps, _, _, h => h.elim
 | [], _ :: _, _, _, ps, h, _, _ => h.elim
 | _ :: _, [], _, _, ps, h, _, _ => h.elim
 | s :: ss, t :: ts, v :: vs, d :: ds, ps, ht, hval, h => by
  obtain ⟨p, q, h1, h2, _⟩ := h
  obtain ⟨cs, hIs, hR⟩ := open_arg (val := val) s ht.1 (hval 0 t v rfl rfl) h1
  obtain ⟨pvs, hRs, hA⟩ := open_args (val := val) ss ts vs ds q ht.2 (fun j t' v' hj hv => hval (j + 1) t' v' (by simpa using hj) (by simpa using hv)) h2
  exact ⟨_, .cons _ _ _ _ hR hRs, cs, pvs, hIs, rfl, hA⟩
 | _ :: _, _ :: _, [], _, ps, _, _, h => h.elim
 | _ :: _, _ :: _, _ :: _, [], ps, _, _, h => h.elim
theorem carried (hl : laidOutB P = true) (hb : Below W.heap.size W W') : ∀ (ts : List TypeId) (vs : List Value) (ds : List (DataW H)) (ps : List MemPlace), (∀ t ∈ ts, P.readableRec t = true ∧ t < P.types.size) → (∀ x ∈ ps, x.block < W.heap.size) →
  DataW.TrodAll enc P W 0 (fun _ => true) true ts vs ds ps → DataW.TrodAll enc P W' 0 (fun b => decide (b < W.heap.size)) true ts vs ds ps
 | [], [], [], ps, _, _, h => h
 | [], _ :: _, _, ps, _, _, h => h.elim
 | [], [], _ :: _, ps, _, _, h => h.elim
 | t :: ts, v :: vs, d :: ds, ps, hr, hlt, h => by
  obtain ⟨p, q, h1, h2, rfl⟩ := h
  exact ⟨p, q, Below.trod hl (hr t (by simp)).1 (hr t (by simp)).2 h1 hb (fun x hx => hlt x (by simp [hx])), carried hl hb ts vs ds q (fun t' ht' => hr t' (by simp [ht'])) (fun x hx => hlt x (by simp [hx])) h2, rfl⟩
 | _ :: _, [], _, ps, _, _, h => h.elim
 | _ :: _, _ :: _, [], ps, _, _, h => h.elim
theorem calls_true {f : FuncId} {fn : Func} {s : ChangeSpec} {apart fresh handsOn : Bool} {args : Array Value} {ds gs : List (DataW H)} {before : List MemPlace} {tr : TypeId} {ss : List Sh} {r : Reach} {b0 : Nat}
    (hl : laidOutB P = true) (hvars : s.vars = []) (hread : ∀ t ∈ fn.params.toList, P.readableRec t = true ∧ t < P.types.size) (hres : fn.resultTypes = #[tr]) (hbool : P.underlying tr = some .bool) (hsh : AllSh P fn.params.toList ss)
    (hfn : ∀ ds : List (DataW H), ds.length = fn.params.toList.length → s.fn H ds = { results := [.lit (.bool true)], args := ds })
    (hreal : ∀ pvs, ArgsIs ss pvs → Real P f pvs (.bool true)) (hinv : Inv P W)
    (hval : ∀ (j : Nat) t v, fn.params[j]? = some t → args[j]? = some v → Value.okWide P W r b0 t v) (hW : DataW.Whole enc P fn.params.toList s.vars apart W args.toList ds gs before) :
    Calls P f args W fun e W' => ∃ v, e = .returned v ∧ s.post enc P fn apart fresh handsOn false W args v W' := by
  have hW' := hW
  obtain ⟨p, q, hA, hV, rfl, hfz, hnd⟩ := hW
  obtain ⟨pvs, hRs, hArgs⟩ := open_args (val := fun _ => default) ss fn.params.toList args.toList ds p hsh (fun j t v hj hv => hval j t v (by simpa using hj) (by simpa using hv)) hA
  have hgs : gs = [] ∧ q = [] := by
    rw [hvars] at hV
    cases gs with
    | nil => exact ⟨rfl, hV⟩
    | cons g gs => exact hV.elim
  obtain ⟨rfl, rfl⟩ := hgs
  have hc := (hreal pvs hArgs).2 W hinv (there W) args.toList (fun _ => default) hRs (fun x hx => hx)
  refine Calls.mono (by simpa using hc) fun e W' he => ?_
  cases e with
  | panicked c => exact he.elim
  | outgrown => exact he.elim
  | returned v =>
    obtain ⟨J, F, hR, _, _, hB⟩ := he
    have hv : v = .bool true := by
      cases hR with
      | one c v F h => cases h with
        | one c v F h => cases h; rfl
    subst hv
    have hlen : ds.length = fn.params.toList.length := by
      clear hRs hArgs hc hval hfn hread hsh hW' hR hB hfz hnd hV
      revert hA
      generalize fn.params.toList = ts
      generalize args.toList = vs
      induction ts generalizing vs ds p with
      | nil => cases vs <;> cases ds <;> intro h <;> first | rfl | exact h.elim
      | cons t ts ih => cases vs <;> cases ds <;> intro h <;> first | exact h.elim | (obtain ⟨p1, q1, _, h2, _⟩ := h; simpa using ih _ _ h2)
    have hb := hfn (ds ++ []) (by simpa using hlen)
    have hW2 := hW'
    refine ⟨_, rfl, ds, [], p ++ [], [], p, [], hW2, ?_, ?_, ?_, ?_, fun h => by cases h⟩
    · rw [hres, hb]
      exact trodAll_mk1 (shut_bool hbool true)
    · rw [hb]
      simp only [List.append_nil]
      exact carried hl hB _ _ _ _ hread (fun x hx => hW2.lt x (by simp [hx])) hA
    · rw [hvars, hb]; rfl
    · exact World.keptBut_mono (fun p hp => ⟨hp, .inr (.inl (by simpa using hp))⟩) (hB.frame _)
end
end Go.Av
