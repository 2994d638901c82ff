/- What a pure value is in a world: the relation between pure values and Go's values, with the blocks that it owns; it stays as it is while nobody writes those blocks. -/
import Derived.Test.YtjbokkoiicoahaaGreatAv
import Derived.Laws.AppendOwn
namespace Go.Av
open Go Go.RowKit
set_option linter.unusedVariables false
abbrev Ft := Nat → Prop
def none' : Ft := fun _ => False
def OwnsW (w : World) (base : Nat) (e : TypeId) (size : Nat) (v : Value) (n : Nat) (xs : List Value) : Prop :=
  xs.length = n * size ∧
  ((v = .slice none 0 0 ∧ n = 0) ∨
   ∃ g cap cur, v = .slice (some ⟨g, 0, none⟩) n cap ∧ base ≤ g ∧ w.heap[g]? = some (.cells cur e (0, 0)) ∧ n ≤ cap ∧ cap ≤ maxLen ∧ cap * size ≤ cur.size ∧ cur.toList.take (n * size) = xs)
theorem OwnsW.nil (w : World) (base : Nat) (e : TypeId) (size : Nat) : OwnsW w base e size (.slice none 0 0) 0 [] := ⟨by simp, .inl ⟨rfl, rfl⟩⟩
theorem OwnsW.of {w : World} {base : Nat} {e : TypeId} {size : Nat} {v : Value} {n : Nat} {xs : List Value} (h : w.ownsRow base e size v n xs) : OwnsW w base e size v n xs := by
 refine ⟨h.1, ?_⟩
 rcases h.2 with h2 | ⟨g, cap, cur, hv, hg, hh, h1, h3, h4, h5⟩
 ·exact .inl h2
 exact .inr ⟨g, cap, cur, hv, hg, hh, h1, h3, Nat.le_of_eq h4.symm, h5⟩
theorem OwnsW.lt {w : World} {base : Nat} {e : TypeId} {size : Nat} {v : Value} {n : Nat} {xs : List Value} (h : OwnsW w base e size v n xs) : ∀ k, v.ownBlock = some k → base ≤ k ∧ k < w.heap.size := by
 intro k hk
 rcases h.2 with ⟨rfl, _⟩ | ⟨g, cap, cur, rfl, hb, hg, _⟩
 ·simp [Value.ownBlock] at hk
 simp [Value.ownBlock] at hk
 subst hk
 exact ⟨hb, (Array.getElem?_eq_some_iff.1 hg).1⟩
theorem OwnsW.cells {w : World} {base : Nat} {e : TypeId} {size : Nat} {v : Value} {n : Nat} {xs : List Value} {g : Nat} (h : OwnsW w base e size v n xs) (hob : v.ownBlock = some g) : ∀ (j : Nat) (u : Value), xs[j]? = some u → w.cell? ((⟨g, 0, none⟩ : Addr).add j) = some u := by
 intro j u hj
 rcases h.2 with ⟨rfl, _⟩ | ⟨g', cap, cur, rfl, hb, hg, _, _, _, ht⟩
 ·simp [Value.ownBlock] at hob
 have e1 : g' = g := by simpa [Value.ownBlock] using hob
 subst e1
 rw [← ht, List.getElem?_take] at hj
 split at hj
 ·rw [Array.getElem?_toList] at hj
  rw [Addr.add_lit]
  simp [World.cell?, hg, hj]
 cases hj
mutual
inductive RelV (w : World) (I : Ft) : PV → Value → Ft → Prop
 | int (k : IntKind) (n : Int) (F : Ft) : RelV w I (.int k n) (.int k n) F
 | bool (b : Bool) (F : Ft) : RelV w I (.bool b) (.bool b) F
 | str (s : ByteArray) (F : Ft) : RelV w I (.str s) (.string s) F
 | zc (F : Ft) : RelV w I .zc (.slice none 0 0) F
 | raw (v : Value) (F : Ft) (h1 : v.oneCell' = true) : RelV w I (.raw v) v F
 | bad (v : Value) (F : Ft) (h1 : v.oneCell' = true) : RelV w I .bad v F
 | slnil (sz : Nat) (F : Ft) : RelV w I (.sl sz []) (.slice none 0 0) F
 | sl (sz : Nat) (rows : List (List PV)) (a : Addr) (cap : Nat) (vs : List Value) (F : Ft) (hu : ∀ r ∈ rows, r.length = sz) (hI : ¬ rows = [] → I a.block) (hs : ¬ rows = [] → a.spot = none)
   (hc : ∀ (j : Nat) (u : Value), vs[j]? = some u → w.cell? (a.add j) = some u) (hr : RelL w I rows.flatten vs none') (hcap : rows.length ≤ cap) : RelV w I (.sl sz rows) (.slice (some a) rows.length cap) F
 | ow (sz : Nat) (rows : List (List PV)) (v : Value) (e : TypeId) (xs : List Value) (F G : Ft) (hu : ∀ r ∈ rows, r.length = sz) (how : OwnsW w 0 e sz v rows.length xs)
   (hr : RelL w I rows.flatten xs G) (hG : ∀ b, G b → F b) (hb : ∀ b, v.ownBlock = some b → F b ∧ ¬ G b) : RelV w I (.ow sz rows) v F
inductive RelL (w : World) (I : Ft) : List PV → List Value → Ft → Prop
 | nil (F : Ft) : RelL w I [] [] F
 | cons (c : PV) (l : List PV) (v : Value) (vs : List Value) (F G H : Ft) (h : RelV w I c v F) (t : RelL w I l vs G) (hF : ∀ b, F b → H b) (hG : ∀ b, G b → H b) (d : ∀ b, F b → ¬ G b) :
   RelL w I (c :: l) (v :: vs) H
end
def SameOn (S : Ft) (w w' : World) : Prop := ∀ b, S b → w'.heap[b]? = w.heap[b]?
theorem SameOn.cell {S : Ft} {w w' : World} (h : SameOn S w w') {a : Addr} (ha : S a.block) : w'.cell? a = w.cell? a :=
 World.cell?_of_block (h _ ha)
theorem add_block (a : Addr) (j : Nat) : (a.add j).block = a.block := by unfold Addr.add; split <;> rfl
theorem RelL.len {w : World} {I : Ft} : ∀ {l : List PV} {vs : List Value} {F : Ft}, RelL w I l vs F → vs.length = l.length
 | _, _, _, .nil _ => rfl
 | _, _, _, .cons _ _ _ _ _ _ _ _ t _ _ _ => by simp [t.len]
theorem ownsRow_same {w w' : World} {e sz : Nat} {v : Value} {n : Nat} {xs : List Value} (h : OwnsW w 0 e sz v n xs) (hs : ∀ b, v.ownBlock = some b → w'.heap[b]? = w.heap[b]?) :
  OwnsW w' 0 e sz v n xs := by
 refine ⟨h.1, ?_⟩
 rcases h.2 with h2 | ⟨g, cap, cur, hv, hg, hh, r⟩
 ·exact .inl h2
 exact .inr ⟨g, cap, cur, hv, hg, by rw [hs g (by rw [hv]; rfl)]; exact hh, r⟩
mutual
theorem RelV.frame {w w' : World} {I I' : Ft} (hI : SameOn I w w') (hII : ∀ b, I b → I' b) : ∀ {c : PV} {v : Value} {F : Ft}, RelV w I c v F → SameOn F w w' → RelV w' I' c v F
 | _, _, _, .int k n F, _ => .int k n F
 | _, _, _, .bool b F, _ => .bool b F
 | _, _, _, .str s F, _ => .str s F
 | _, _, _, .zc F, _ => .zc F
 | _, _, _, .raw v F h1, _ => .raw v F h1
 | _, _, _, .bad v F h1, _ => .bad v F h1
 | _, _, _, .slnil sz F, _ => .slnil sz F
 | _, _, _, .sl sz rows a cap vs F hu hb hs hc hr hcap, _ => by
  have hr' := RelL.frame hI hII hr (fun _ h => h.elim)
  refine .sl sz rows a cap vs F hu (fun h => hII _ (hb h)) hs ?_ hr' hcap
  intro j u hj
  by_cases hrows : rows = []
  ·subst hrows
   have := hr.len
   simp at this
   subst this
   simp at hj
  rw [hI.cell (by rw [add_block]; exact hb hrows)]; exact hc j u hj
 | _, _, _, .ow sz rows v e xs F G hu how hr hG hb, hF =>
  .ow sz rows v e xs F G hu (ownsRow_same how fun b h => hF b (hb b h).1) (RelL.frame hI hII hr (fun b h => hF b (hG b h))) hG hb
theorem RelL.frame {w w' : World} {I I' : Ft} (hI : SameOn I w w') (hII : ∀ b, I b → I' b) : ∀ {l : List PV} {vs : List Value} {F : Ft}, RelL w I l vs F → SameOn F w w' → RelL w' I' l vs F
 | _, _, _, .nil F, _ => .nil F
 | _, _, _, .cons c l v vs F G H h t hF hG d, hH =>
  .cons c l v vs F G H (RelV.frame hI hII h (fun b hb => hH b (hF b hb))) (RelL.frame hI hII t (fun b hb => hH b (hG b hb))) hF hG d
end
theorem RelV.mono {w : World} {I : Ft} {c : PV} {v : Value} {F F' : Ft} (h : RelV w I c v F) (hF : ∀ b, F b → F' b) : RelV w I c v F' := by
 cases h with
 | int k n F => exact .int k n _
 | bool b F => exact .bool b _
 | str s F => exact .str s _
 | zc F => exact .zc _
 | raw v F h1 => exact .raw v _ h1
 | bad v F h1 => exact .bad v _ h1
 | slnil sz F => exact .slnil sz _
 | sl sz rows a cap vs F hu hb hs hc hr hcap => exact .sl sz rows a cap vs _ hu hb hs hc hr hcap
 | ow sz rows v e xs F G hu how hr hG hb => exact .ow sz rows v e xs _ G hu how hr (fun b h => hF b (hG b h)) (fun b h => ⟨hF b (hb b h).1, (hb b h).2⟩)
theorem RelL.mono {w : World} {I : Ft} {l : List PV} {vs : List Value} {F F' : Ft} (h : RelL w I l vs F) (hF : ∀ b, F b → F' b) : RelL w I l vs F' := by
 cases h with
 | nil F => exact .nil _
 | cons c l v vs F G H h t hF' hG d => exact .cons c l v vs F G _ h t (fun b hb => hF b (hF' b hb)) (fun b hb => hF b (hG b hb)) d
theorem SameOn.mono {S S' : Ft} {w w' : World} (h : SameOn S w w') (hs : ∀ b, S' b → S b) : SameOn S' w w' := fun b hb => h b (hs b hb)
theorem SameOn.refl (S : Ft) (w : World) : SameOn S w w := fun _ _ => rfl
theorem eraseL_length : ∀ (l : List PV), (eraseL l).length = l.length
 | [] => rfl
 | _ :: l => by simp [eraseL, eraseL_length l]
theorem eraseR_length : ∀ (rows : List (List PV)), (eraseR rows).length = rows.length
 | [] => rfl
 | _ :: l => by simp [eraseR, eraseR_length l]
theorem eraseR_len {sz : Nat} : ∀ (rows : List (List PV)), (∀ r ∈ rows, r.length = sz) → ∀ r ∈ eraseR rows, r.length = sz
 | [], _, _, h => by simp [eraseR] at h
 | r0 :: l, hu, r, h => by
  simp only [eraseR, List.mem_cons] at h
  rcases h with rfl | h
  ·rw [eraseL_length]; exact hu r0 (by simp)
  exact eraseR_len l (fun r hr => hu r (by simp [hr])) r h
theorem eraseL_append : ∀ (a b : List PV), eraseL (a ++ b) = eraseL a ++ eraseL b
 | [], _ => rfl
 | _ :: a, b => by simp [eraseL, eraseL_append a b]
theorem eraseR_flatten : ∀ (rows : List (List PV)), (eraseR rows).flatten = eraseL rows.flatten
 | [] => rfl
 | r :: l => by simp [eraseR, eraseL_append, eraseR_flatten l]
mutual
theorem RelV.erase {w : World} {I J : Ft} (hIJ : ∀ b, I b → J b) : ∀ {c : PV} {v : Value} {F : Ft}, RelV w I c v F → (∀ b, F b → J b) → RelV w J (erase c) v none'
 | _, _, _, .int k n F, _ => .int k n _
 | _, _, _, .bool b F, _ => .bool b _
 | _, _, _, .str s F, _ => .str s _
 | _, _, _, .zc F, _ => .zc _
 | _, _, _, .raw v F h1, _ => .bad v _ h1
 | _, _, _, .bad v F h1, _ => .bad v _ h1
 | _, _, _, .slnil sz F, _ => .slnil sz _
 | _, _, _, .sl sz rows a cap vs F hu hb hs hc hr hcap, _ => .sl sz rows a cap vs _ hu (fun h => hIJ _ (hb h)) hs hc (RelL.frame (SameOn.refl _ _) hIJ hr (SameOn.refl _ _)) hcap
 | _, _, _, .ow sz rows v e xs F G hu how hr hG hb, hF => by
  have hr' := RelL.erase hIJ hr (fun b h => hF b (hG b h))
  rw [← eraseR_flatten] at hr'
  have hu' : ∀ r ∈ eraseR rows, r.length = sz := eraseR_len rows hu
  have hlen : (eraseR rows).length = rows.length := eraseR_length rows
  unfold Av.erase
  rcases how.2 with ⟨rfl, hn⟩ | ⟨g, cap, cur, rfl, _, hh, hncap, _⟩
  ·have : rows = [] := List.eq_nil_of_length_eq_zero hn
   subst this
   exact .slnil sz _
  rw [← hlen]
  refine .sl sz (eraseR rows) ⟨g, 0, none⟩ cap xs _ hu' (fun _ => hF g (hb g rfl).1) (fun _ => rfl) ?_ hr' (by rw [hlen]; exact hncap)
  intro j u hj
  exact how.cells (g := g) rfl j u hj
theorem RelL.erase {w : World} {I J : Ft} (hIJ : ∀ b, I b → J b) : ∀ {l : List PV} {vs : List Value} {F : Ft}, RelL w I l vs F → (∀ b, F b → J b) → RelL w J (eraseL l) vs none'
 | _, _, _, .nil F, _ => .nil _
 | _, _, _, .cons c l v vs F G H h t hF hG d, hH =>
  .cons _ _ v vs none' none' _ (RelV.erase hIJ h (fun b hb => hH b (hF b hb))) (RelL.erase hIJ t (fun b hb => hH b (hG b hb))) (fun _ h => h) (fun _ h => h) (fun _ h => h.elim)
end
end Go.Av
