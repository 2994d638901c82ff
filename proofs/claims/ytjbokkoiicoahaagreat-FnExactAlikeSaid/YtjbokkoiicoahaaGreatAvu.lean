/- What comes in, by its shape: its cells as pure values. -/
import Derived.Test.YtjbokkoiicoahaaGreatAvz
import Derived.ProofKit
namespace Go.Av
open Go Go.RowKit
set_option linter.unusedVariables false
set_option linter.unusedSimpArgs false
mutual
inductive Sh where
 | int (k : IntKind)
 | bool
 | str
 | slice (e : TypeId) (s : Sh)
 | struct (fs : Shs)
inductive Shs where
 | nil
 | cons (t : TypeId) (s : Sh) (l : Shs)
end
mutual
def Sh.size : Sh → Nat
 | .struct fs => fs.size
 | _ => 1
def Shs.size : Shs → Nat
 | .nil => 0
 | .cons _ s l => s.size + l.size
end
def Shs.lay : Nat → Shs → List (TypeId × Nat × Nat)
 | _, .nil => []
 | o, .cons t s l => (t, o, s.size) :: l.lay (o + s.size)
mutual
def ShOk (P : Program) (t : TypeId) : Sh → Prop
 | .int k => P.underlying t = some (.int k)
 | .bool => P.underlying t = some .bool
 | .str => P.underlying t = some .string
 | .slice e s => P.underlying t = some (.slice e) ∧ P.cellsOf e = s.size ∧ 0 < s.size ∧ ShOk P e s
 | .struct fs => ∃ fields : Array Field, P.underlying t = some (.struct fields) ∧ P.cellsOf t = fs.size ∧ fields.toList.map (fun f => (f.type, f.offset, P.cellsOf f.type)) = fs.lay 0 ∧ ShsOk P fs
def ShsOk (P : Program) : Shs → Prop
 | .nil => True
 | .cons t s l => ShOk P t s ∧ ShsOk P l
end
mutual
def Sh.Is : Sh → List PV → Prop
 | .int k, cs => ∃ n, cs = [.int k n] ∧ (Lit.int k n).wf = true
 | .bool, cs => ∃ b, cs = [.bool b]
 | .str, cs => ∃ b, cs = [.str b] ∧ b.size ≤ maxLen
 | .slice e s, cs => ∃ rows, cs = [.sl s.size rows] ∧ rows.length ≤ maxLen ∧ ∀ r ∈ rows, s.Is r
 | .struct fs, cs => fs.Is cs
def Shs.Is : Shs → List PV → Prop
 | .nil, cs => cs = []
 | .cons _ s l, cs => ∃ c r, cs = c ++ r ∧ s.Is c ∧ l.Is r
end
section
variable {P : Program} {H : Type} {enc : TypeId × Value → H} {w : World} {sp : Nat → Bool} {held : Bool}
def there (w : World) : Ft := fun x => x < w.heap.size
theorem cell_there {a : Addr} {u : Value} (h : w.cell? a = some u) : a.block < w.heap.size ∧ a.spot = none := by
 unfold World.cell? at h
 split at h
 ·rename_i c _ _ hh
  refine ⟨(Array.getElem?_eq_some_iff.1 hh).1, ?_⟩
  cases hs : a.spot with
  | none => rfl
  | some s => simp [hs] at h
 cases h
theorem open_rows {s : Sh} {e : TypeId} {a : Addr} {base n : Nat} (hsz : P.cellsOf e = s.size) (hpos : 0 < s.size) (ih : ∀ vs x, DataW.trod enc P w base sp held n e vs = some x → ∃ cs, RelL w (there w) cs vs none' ∧ s.Is cs ∧ cs.length = s.size) :
  ∀ m, (∀ i, i < m → ∃ y, (w.cells? base (a.add (i * P.cellsOf e)) (P.cellsOf e)).bind (DataW.trod enc P w base sp held n e) = some y) →
  ∃ (rows : List (List PV)) (vs : List Value), rows.length = m ∧ (∀ r ∈ rows, s.Is r ∧ r.length = s.size) ∧ RelL w (there w) rows.flatten vs none' ∧ (∀ (j : Nat) (u : Value), vs[j]? = some u → w.cell? (a.add j) = some u) ∧ (0 < m → a.block < w.heap.size ∧ a.spot = none) ∧ vs.length = m * s.size
 | 0, _ => ⟨[], [], rfl, fun r h => by simp at h, .nil _, fun j u h => by simp at h, fun h => by omega, by simp⟩
 | m + 1, h => by
  obtain ⟨rows, vs, h1, h2, h3, h4, h5, h6⟩ := open_rows (a := a) hsz hpos ih m fun i hi => h i (by omega)
  obtain ⟨y, hy⟩ := h m (by omega)
  rw [Option.bind_eq_some_iff] at hy
  obtain ⟨us, hus, hy⟩ := hy
  obtain ⟨cs, hR, hIs, hlen⟩ := ih us y hy
  have hcs := World.cells?_some hus
  have hul : us.length = s.size := by rw [hR.len, hlen]
  have hcell : ∀ (j : Nat) (u : Value), us[j]? = some u → w.cell? ((a.add (m * s.size)).add j) = some u := by
   intro j u hj
   have hjl : j < us.length := (List.getElem?_eq_some_iff.1 hj).1
   have := hcs.2.2 j (by omega)
   rw [hsz] at this
   rw [this, hj]
  have h0 : ∃ u, us[0]? = some u := ⟨us[0]'(by omega), by simp⟩
  obtain ⟨u0, hu0⟩ := h0
  have hth := cell_there (hcell 0 u0 hu0)
  have hbl : a.block < w.heap.size := by rw [add_block, add_block] at hth; exact hth.1
  have hsp : a.spot = none := by
   rcases Nat.eq_zero_or_pos m with h0 | h0
   ·subst h0
    have := hth.2
    simpa [Addr.add] using this
   exact (h5 h0).2
  refine ⟨rows ++ [cs], vs ++ us, by simp [h1], fun r hr => ?_, ?_, fun j u hj => ?_, fun _ => ⟨hbl, hsp⟩, by simp [h6, hul, Nat.succ_mul]⟩
  ·rw [List.mem_append] at hr
   rcases hr with hr | hr
   ·exact h2 r hr
   simp at hr; subst hr; exact ⟨hIs, hlen⟩
  ·rw [List.flatten_append]
   simp only [List.flatten_cons, List.flatten_nil, List.append_nil]
   exact h3.append hR (fun _ h => h.elim) (fun _ h => h) (fun _ h => h)
  rw [List.getElem?_append] at hj
  split at hj
  ·exact h4 j u hj
  rename_i hge
  have := hcell _ u hj
  obtain ⟨b, off, spt⟩ := a
  simp only at hsp
  subst hsp
  rw [Addr.add_mid, Addr.add_mid] at this
  rw [Addr.add_mid, ← this]
  congr 2
  omega
mutual
theorem open_sh : ∀ (s : Sh) (t : TypeId) (fuel base : Nat) (vs : List Value) (x : DataW H × List MemPlace), ShOk P t s → DataW.trod enc P w base sp held fuel t vs = some x → ∃ cs, RelL w (there w) cs vs none' ∧ s.Is cs ∧ cs.length = s.size
  | .int k, t, fuel, base, vs, x, ht, h => by
    obtain ⟨n, rfl, _, hwf⟩ := DataW.trod_int ht h
    exact ⟨[.int k n], .cons _ _ _ _ none' none' _ (.int k n _) (.nil _) (fun _ h => h) (fun _ h => h) (fun _ h => h.elim), ⟨n, rfl, hwf⟩, rfl⟩
  | .bool, t, fuel, base, vs, x, ht, h => by
    obtain ⟨b, rfl, _⟩ := DataW.trod_bool ht h
    exact ⟨[.bool b], .cons _ _ _ _ none' none' _ (.bool b _) (.nil _) (fun _ h => h) (fun _ h => h) (fun _ h => h.elim), ⟨b, rfl⟩, rfl⟩
  | .str, t, fuel, base, vs, x, ht, h => by
    obtain ⟨b, rfl, _, hb⟩ := DataW.trod_string ht h
    exact ⟨[.str b], .cons _ _ _ _ none' none' _ (.str b _) (.nil _) (fun _ h => h) (fun _ h => h) (fun _ h => h.elim), ⟨b, rfl, hb⟩, rfl⟩
  | .slice e s, t, fuel, base, vs, x, ht, h => by
    obtain ⟨ht, hsz, hpos, he⟩ := ht
    rcases DataW.trod_slice ht h with ⟨rfl, _⟩ | ⟨a, len, cap, elems, rest, n, _, rfl, _, _, hlc, hcm, hel, hels, _⟩
    · exact ⟨[.sl s.size []], .cons _ _ _ _ none' none' _ (.slnil _ _) (.nil _) (fun _ h => h) (fun _ h => h) (fun _ h => h.elim), ⟨[], rfl, Nat.zero_le _, fun r hr => by simp at hr⟩, rfl⟩
    · obtain ⟨rows, us, h1, h2, h3, h4, h5, _⟩ := open_rows (a := a) hsz hpos (fun vs x hx => open_sh s e n base vs x he hx) len (fun i hi => ⟨elems[i]'(by omega), by rw [hels i hi]; simp⟩)
      refine ⟨[.sl s.size rows], .cons _ _ _ _ none' none' _ ?_ (.nil _) (fun _ h => h) (fun _ h => h) (fun _ h => h.elim), ⟨rows, rfl, by omega, fun r hr => (h2 r hr).1⟩, rfl⟩
      rw [← h1]
      have hl : ¬ rows = [] → 0 < len := fun hne => by rw [← h1]; exact List.length_pos_iff.2 hne
      exact .sl s.size rows a cap us _ (fun r hr => (h2 r hr).2) (fun hne => (h5 (hl hne)).1) (fun hne => (h5 (hl hne)).2) h4 h3 (by rw [h1]; exact hlc)
  | .struct fs, t, fuel, base, vs, x, ht, h => by
    obtain ⟨fields, ht, hsz, hlay, hfs⟩ := ht
    obtain ⟨xs, n, _, _, hlen, hxl, hx⟩ := DataW.trod_struct ht h
    obtain ⟨cs, hR, hIs, hl⟩ := open_shs fs 0 n base vs hfs fun tr htr => by
      rw [← hlay, List.mem_map] at htr
      obtain ⟨f, hf, rfl⟩ := htr
      obtain ⟨i, hi⟩ := List.mem_iff_getElem?.1 hf
      have hi' : fields[i]? = some f := by simpa using hi
      have hil : i < fields.size := (Array.getElem?_eq_some_iff.1 hi').1
      exact ⟨xs[i]'(by omega), by rw [hx i f hi']; simp⟩
    refine ⟨cs, ?_, hIs, hl⟩
    have : (vs.drop 0).take fs.size = vs := by rw [List.drop_zero, ← hsz, ← hlen]; exact List.take_length
    rwa [this] at hR
theorem open_shs : ∀ (l : Shs) (o n base : Nat) (vs : List Value), ShsOk P l → (∀ tr ∈ l.lay o, ∃ x, DataW.trod enc P w base sp held n tr.1 ((vs.drop tr.2.1).take tr.2.2) = some x) →
  ∃ cs, RelL w (there w) cs ((vs.drop o).take l.size) none' ∧ l.Is cs ∧ cs.length = l.size
 | .nil, o, n, base, vs, _, _ => ⟨[], by simp only [Shs.size, List.take_zero]; exact .nil _, rfl, rfl⟩
 | .cons t s l, o, n, base, vs, ht, h => by
  obtain ⟨x, hx⟩ := h (t, o, s.size) (by simp [Shs.lay])
  obtain ⟨cs, hR, hIs, hl⟩ := open_sh s t n base _ x ht.1 hx
  obtain ⟨cs', hR', hIs', hl'⟩ := open_shs l (o + s.size) n base vs ht.2 fun tr htr => h tr (by simp [Shs.lay, htr])
  refine ⟨cs ++ cs', ?_, ⟨cs, cs', rfl, hIs, hIs'⟩, by simp [Shs.size, hl, hl']⟩
  simp only [Shs.size]
  rw [List.take_add, List.drop_drop]
  exact hR.append hR' (fun _ h => h.elim) (fun _ h => h) (fun _ h => h)
end
end
end Go.Av
