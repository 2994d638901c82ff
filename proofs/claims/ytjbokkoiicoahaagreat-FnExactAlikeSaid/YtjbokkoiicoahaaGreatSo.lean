/- slices.Sort and slices.Compact of numbers, as the walks use them. -/
import Derived.Test.YtjbokkoiicoahaaGreatSh
import Derived.Test.YtjbokkoiicoahaaGreatAvg
import Derived.Test.YtjbokkoiicoahaaGreatJ0
namespace Go.Av
open Go Go.Proofs Go.RowKit Go.Sort
set_option maxRecDepth 100000
set_option linter.unusedVariables false
set_option linter.unusedSimpArgs false
theorem relL_ints {w : World} {I : Ft} : ∀ {zs : List Int} {xs : List Value} {G : Ft}, RelL w I (zs.map eInt).flatten xs G → xs = zs.map (Value.int .i64)
 | [], xs, G, h => by cases h; rfl
 | z :: zs, xs, G, h => by
  have h : RelL w I (.int .i64 z :: (zs.map eInt).flatten) xs G := h
  cases h with
  | cons c l v vs F G' H hv t hF hG d =>
   cases hv
   rw [relL_ints (zs := zs) t]; rfl
theorem ints_relL {w : World} {I : Ft} : ∀ (zs : List Int), RelL w I (zs.map eInt).flatten (zs.map (Value.int .i64)) none'
 | [] => .nil _
 | z :: zs => .cons _ _ _ _ none' none' none' (.int _ _ _) (ints_relL zs) (fun _ h => h) (fun _ h => h) (fun _ h => h.elim)
theorem putCells_take (d : List Int) (cur : Array Value) (h : d.length ≤ cur.size) : (putCells (Value.int .i64) 0 d.toArray cur).toList.take d.length = d.map (Value.int .i64) := by
 apply List.ext_getElem?
 intro i
 rw [List.getElem?_take, List.getElem?_map]
 by_cases hi : i < d.length
 ·rw [if_pos hi]
  have hc : i < cur.size := by omega
  simp [putCells, hc, hi]
 rw [if_neg hi, List.getElem?_eq_none (by omega)]; rfl
theorem putCells_size (d : Array Int) (cur : Array Value) : (putCells (Value.int .i64) 0 d cur).size = cur.size := by simp [putCells]
theorem heap_put {w : World} {g : Nat} {cur : Array Value} {e : TypeId} {d : Array Int} {n : Nat} {os : Array Obj} (hg : w.heap[g]? = some (.cells cur e (0, 0))) :
  (grow (putRow (Value.int .i64) (Sort.ahead w n) g 0 d) os).heap[g]? = some (.cells (putCells (Value.int .i64) 0 d cur) e (0, 0)) := by
 obtain ⟨hl, hg'⟩ := Array.getElem?_eq_some_iff.1 hg
 have h1 : ((putRow (Value.int .i64) (Sort.ahead w n) g 0 d).heap)[g]? = some (.cells (putCells (Value.int .i64) 0 d cur) e (0, 0)) := by
  show (w.heap.modify g (onCells (putCells (Value.int .i64) 0 d)))[g]? = _
  rw [Array.getElem?_modify, if_pos rfl, hg]; rfl
 show (((putRow (Value.int .i64) (Sort.ahead w n) g 0 d).heap) ++ os)[g]? = _
 rw [Array.getElem?_append_left (Array.getElem?_eq_some_iff.1 h1).1, h1]
theorem put_kept {w : World} {g : Nat} {d : Array Int} {n : Nat} {os : Array Obj} {F : Ft} (hg : F g) : Kept (fun x => F x ∨ w.heap.size ≤ x) w (grow (putRow (Value.int .i64) (Sort.ahead w n) g 0 d) os) := by
  have hs : (putRow (Value.int .i64) (Sort.ahead w n) g 0 d).heap.size = w.heap.size := by simp [Sort.ahead]
  refine ⟨rfl, rfl, rfl, ?_, fun k hk => ?_⟩
  · show w.heap.size ≤ ((putRow (Value.int .i64) (Sort.ahead w n) g 0 d).heap ++ os).size
    rw [Array.size_append, hs]; omega
  · have hk1 : k ≠ g := fun e => hk (.inl (e ▸ hg))
    have hk2 : k < w.heap.size := by
      rcases Nat.lt_or_ge k w.heap.size with h | h
      · exact h
      · exact absurd (.inr h) hk
    show (((putRow (Value.int .i64) (Sort.ahead w n) g 0 d).heap) ++ os)[k]? = _
    rw [Array.getElem?_append_left (by rw [hs]; exact hk2)]
    show (w.heap.modify g (onCells (putCells (Value.int .i64) 0 d)))[k]? = _
    rw [Array.getElem?_modify, if_neg (fun e => hk1 e.symm)]
theorem holds_own {w : World} {g : Nat} {cur : Array Value} {e : TypeId} {zs : List Int} (hg : w.heap[g]? = some (.cells cur e (0, 0))) (ht : cur.toList.take zs.length = zs.map (Value.int .i64)) : Holds (Value.int .i64) w g 0 zs.toArray := by
 intro j hj
 have hj : j < zs.length := by simpa using hj
 have h1 : (cur.toList.take zs.length)[j]? = some (.int .i64 zs[j]) := by rw [ht, List.getElem?_map, List.getElem?_eq_getElem hj]; rfl
 rw [List.getElem?_take, if_pos hj, Array.getElem?_toList] at h1
 refine ⟨?_, ?_⟩
 ·simp [World.cell?, hg, h1, hj]
 simp [World.frozen?, hg]
theorem r_Sort (zs : List Int) (hz : zs.length < 4611686018427387904) : RealM Tryz.prog 165 [.ow 1 (zs.map eInt)] [.ow 1 ((sortI zs).map eInt)] (.tup []) := by
 refine ⟨⟨_, _, Tryz.func165, rfl, by kernel_rfl⟩, fun w hInv I F hFP vs hR hI hF => ?_⟩
 have hlen : (sortI zs).length = zs.length := List.length_mergeSort _
 cases hR with
 | cons c l v vs' F1 G H h t hF1 hG1 d =>
  cases t
  cases h with
  | one c v F1 h =>
   cases h with
   | ow sz rows v e xs F1 G1 hu how hr hG hb =>
    have hx := relL_ints hr
    subst hx
    obtain ⟨h1, hv | ⟨g, cap, cur, hv, h0, hg, hc1, hc2, hc3, ht⟩⟩ := how
    ·obtain ⟨hv, hn⟩ := hv
     subst hv
     have hz0 : zs = [] := by simpa using hn
     subst hz0
     refine Calls.mono (Tryz.slices_Sort_int_none none 0 w) fun e' w' he => ?_
     obtain ⟨rfl, rfl⟩ := he
     refine ⟨I, none', .tup _ _ _ (.nil _), ?_, fun _ h => h.elim, fun x hx => ⟨.inl hx, hI x hx, fun h => h⟩, Kept.refl _ _⟩
     rw [show sortI [] = [] from by simp [sortI]]
     exact .cons _ _ _ _ none' none' none' (.one _ _ _ (.ow 1 [] _ e [] none' none' (fun r hr => by cases hr) (OwnsW.nil _ _ _ _) (.nil _) (fun _ h => h) (fun b hb => by cases hb))) (.nil _) (fun _ h => h) (fun _ h => h) (fun _ h => h.elim)
    subst hv
    have hl0 : (zs.map eInt).length = zs.length := by simp
    rw [hl0] at ht hc1 ⊢
    rw [Nat.mul_one] at ht hc3
    have hFg : F g := hF1 _ (hb g rfl).1
    refine Calls.mono (Tryz.slices_Sort_int g 0 cap zs w (holds_own hg ht) (Array.getElem?_eq_some_iff.1 hg).1 hz) fun e' w' he => ?_
    obtain ⟨rfl, n, os, rfl⟩ := he
    have hk := put_kept (w := w) (d := (sortI zs).toArray) (n := n) (os := os) hFg
    refine ⟨I, fun x => x = g, .tup _ _ _ (.nil _), ?_, fun x hx => ?_, fun x hx => ⟨.inl hx, Nat.lt_of_lt_of_le (hI x hx) hk.size, fun h => ?_⟩, hk⟩
    ·have how' : OwnsW (grow (putRow (Value.int .i64) (Sort.ahead w n) g 0 (sortI zs).toArray) os) 0 e 1 (.slice (some ⟨g, 0, none⟩) zs.length cap) ((sortI zs).map eInt).length ((sortI zs).map (Value.int .i64)) := by
      refine ⟨by simp, .inr ⟨g, cap, putCells (Value.int .i64) 0 (sortI zs).toArray cur, by simp [hlen], Nat.zero_le _, heap_put hg, by simp [hlen]; exact hc1, hc2, by rw [putCells_size]; omega, ?_⟩⟩
      have := putCells_take (sortI zs) cur (by omega)
      simpa using this
     exact .cons _ _ _ _ (fun x => x = g) none' (fun x => x = g) (.one _ _ _ (.ow 1 _ _ e _ _ none' (fun r hr => by obtain ⟨z, _, rfl⟩ := List.mem_map.1 hr; rfl) how' (ints_relL _) (fun _ h => h.elim) (fun b hb => by simp [Value.ownBlock] at hb; exact ⟨hb.symm, fun h => h⟩))) (.nil _) (fun _ h => h) (fun _ h => h.elim) (fun _ _ h => h)
    ·subst hx; exact ⟨.inl hFg, Nat.lt_of_lt_of_le (hF _ hFg).1 hk.size⟩
    subst h; exact (hF _ hFg).2 hx
theorem compact_le (zs : List Int) : (Lib.compact zs).length ≤ zs.length := by
 unfold Lib.compact Lib.compactUpTo
 rw [List.length_map]
 have := List.length_filter_le (Lib.keeps zs.toArray) (List.range zs.length)
 rwa [List.length_range] at this
theorem r_Compact (zs : List Int) (hz : zs.length ≤ 9223372036854775807) : RealC Tryz.prog 166 [.ow 1 (zs.map eInt)] (.ow 1 ((Lib.compact zs).map eInt)) := by
 refine ⟨⟨_, _, Tryz.func166, rfl, by kernel_rfl⟩, fun w hInv I F hFP vs hR hI hF => ?_⟩
 have hlen := compact_le zs
 cases hR with
 | cons c l v vs' F1 G H h t hF1 hG1 d =>
  cases t
  cases h with
  | one c v F1 h =>
   cases h with
   | ow sz rows v e xs F1 G1 hu how hr hG hb =>
    have hx := relL_ints hr
    subst hx
    obtain ⟨h1, hv | ⟨g, cap, cur, hv, h0, hg, hc1, hc2, hc3, ht⟩⟩ := how
    ·obtain ⟨hv, hn⟩ := hv
     subst hv
     have hz0 : zs = [] := by simpa using hn
     subst hz0
     refine Calls.mono (Tryz.slices_Compact_int_empty none 0 w) fun e' w' he => ?_
     obtain ⟨rfl, rfl⟩ := he
     refine ⟨I, none', .one _ _ _ (.one _ _ _ ?_), fun _ h => h.elim, fun x hx => ⟨.inl hx, hI x hx, fun h => h⟩, Kept.refl _ _⟩
     rw [show Lib.compact ([] : List Int) = [] from rfl]
     exact .ow 1 [] _ e [] none' none' (fun r hr => by cases hr) (OwnsW.nil _ _ _ _) (.nil _) (fun _ h => h) (fun b hb => by cases hb)
    subst hv
    have hl0 : (zs.map eInt).length = zs.length := by simp
    rw [hl0] at ht hc1 ⊢
    rw [Nat.mul_one] at ht hc3
    have hFg : F g := hF1 _ (hb g rfl).1
    refine Calls.mono (Tryz.slices_Compact_int g 0 cap zs w (holds_own hg ht) hz hc1) fun e' w' he => ?_
    obtain ⟨rfl, n, hw⟩ := he
    generalize hd : Lib.compact zs ++ List.replicate (zs.length - (Lib.compact zs).length) 0 = d' at hw
    have hw' : w' = grow (putRow (Value.int .i64) (Sort.ahead w n) g 0 d'.toArray) #[] := by rw [grow_empty]; exact hw
    subst hw'
    have hdl : d'.length = zs.length := by rw [← hd]; simp; omega
    have hk := put_kept (w := w) (d := d'.toArray) (n := n) (os := #[]) hFg
    refine ⟨I, fun x => x = g, .one _ _ _ (.one _ _ _ ?_), fun x hx => ?_, fun x hx => ⟨.inl hx, Nat.lt_of_lt_of_le (hI x hx) hk.size, fun h => ?_⟩, hk⟩
    ·have how' : OwnsW (grow (putRow (Value.int .i64) (Sort.ahead w n) g 0 d'.toArray) #[]) 0 e 1 (.slice (some ⟨g, 0, none⟩) (Lib.compact zs).length cap) ((Lib.compact zs).map eInt).length ((Lib.compact zs).map (Value.int .i64)) := by
      refine ⟨by simp, .inr ⟨g, cap, putCells (Value.int .i64) 0 d'.toArray cur, by simp, Nat.zero_le _, heap_put hg, by simp; omega, hc2, by rw [putCells_size]; omega, ?_⟩⟩
      have h2 := putCells_take d' cur (by omega)
      have h3 := congrArg (List.take (Lib.compact zs).length) h2
      rw [List.take_take, Nat.min_eq_left (by omega), ← List.map_take, ← hd, List.take_left'  rfl, hd] at h3
      simpa using h3
     exact .ow 1 _ _ e _ _ none' (fun r hr => by obtain ⟨z, _, rfl⟩ := List.mem_map.1 hr; rfl) how' (ints_relL _) (fun _ h => h.elim) (fun b hb => by simp [Value.ownBlock] at hb; exact ⟨hb.symm, fun h => h⟩)
    ·subst hx; exact ⟨.inl hFg, Nat.lt_of_lt_of_le (hF _ hFg).1 hk.size⟩
    subst h; exact (hF _ hFg).2 hx
end Go.Av
