/- What the library's functions give, as the walks use it. -/
import Derived.Test.YtjbokkoiicoahaaDoorSh
import Derived.Test.YtjbokkoiicoahaaDoorAvg
import Derived.Lib.AppendIntMem
namespace Go.Av
open Go Go.Proofs Go.RowKit
set_option maxRecDepth 100000
set_option linter.unusedVariables false
set_option linter.unusedSimpArgs false

def itoaB (n : Int) : ByteArray := ⟨(Lib.itoa n).toArray⟩
def joinB (xs : List ByteArray) (sep : ByteArray) : ByteArray := ⟨(Lib.join (xs.map (·.data.toList)) sep.data.toList).toArray⟩
def replB (s old new : ByteArray) : ByteArray := ⟨(Lib.replaceAll s.data.toList old.data.toList new.data.toList).toArray⟩

theorem one_arg {w : World} {I : Ft} {val : Nat → Value} {c : PV} {vs : List Value} (h : RelSL w I val [] [c] vs) : ∃ v, vs = [v] ∧ RelS w I val [] c v := by
  cases h with
  | cons c l v vs h t => cases t; exact ⟨v, rfl, h⟩

theorem two_args {w : World} {I : Ft} {val : Nat → Value} {c d : PV} {vs : List Value} (h : RelSL w I val [] [c, d] vs) : ∃ v u, vs = [v, u] ∧ RelS w I val [] c v ∧ RelS w I val [] d u := by
  cases h with
  | cons c l v vs h t => cases t with
    | cons c' l' v' vs' h' t' => cases t'; exact ⟨v, v', rfl, h, h'⟩

theorem three_args {w : World} {I : Ft} {val : Nat → Value} {c d e : PV} {vs : List Value} (h : RelSL w I val [] [c, d, e] vs) : ∃ v u t, vs = [v, u, t] ∧ RelS w I val [] c v ∧ RelS w I val [] d u ∧ RelS w I val [] e t := by
  cases h with
  | cons c l v vs h t => obtain ⟨u, s, rfl, h1, h2⟩ := two_args t; exact ⟨v, u, s, rfl, h, h1, h2⟩

theorem str_ret {w w' : World} {I : Ft} {s : ByteArray} (hB : Below w.heap.size w w') : ∃ J F, RelR w' J (.str s) (.string s) F ∧ (∀ x, F x → w.heap.size ≤ x ∧ x < w'.heap.size) ∧ (∀ x, J x → (I x ∨ w.heap.size ≤ x) ∧ x < w'.heap.size ∧ ¬ F x) ∧ Below w.heap.size w w' :=
  ⟨none', none', .one _ _ _ (.one _ _ _ (.str _ _)), fun _ h => h.elim, fun _ h => h.elim, hB⟩

theorem r_Itoa (n : Int) (h0 : -9223372036854775808 ≤ n) (h1 : n ≤ 9223372036854775807) : Real Tryd.prog 42 [.int .i64 n] (.str (itoaB n)) := by
  refine ⟨⟨_, _, Tryd.func42, rfl, by kernel_rfl⟩, fun w hInv I vs val hR hI => ?_⟩
  obtain ⟨v, rfl, hv⟩ := one_arg hR
  have hv := rel_int hv
  subst hv
  refine Calls.mono (Tryd.strconv_Itoa n h0 h1 w (hInv.tab 3 (by kernel_rfl))) fun e w' he => ?_
  obtain ⟨rfl, k, os, rfl⟩ := he
  exact str_ret (Lib.below_grow _ w (Nat.le_refl _) k os)

theorem joinB_size (xs : List ByteArray) (sep : ByteArray) : (joinB xs sep).size = (Lib.join (xs.map (·.data.toList)) sep.data.toList).length := by simp [joinB, ByteArray.size]

theorem flat1 : ∀ xs : List ByteArray, (xs.map fun s => [PV.str s]).flatten = xs.map PV.str
  | [] => rfl
  | x :: xs => by rw [List.map_cons, List.flatten_cons, flat1 xs]; rfl

theorem r_Join (xs : List ByteArray) (sep : ByteArray) (hN : xs.length ≤ 140737488355328) (hlen : (joinB xs sep).size ≤ 140737488355328) : Real Tryd.prog 20 [.sl 1 (xs.map fun s => [.str s]), .str sep] (.str (joinB xs sep)) := by
  refine ⟨⟨_, _, Tryd.func20, rfl, by kernel_rfl⟩, fun w hInv I vs val hR hI => ?_⟩
  obtain ⟨v, u, rfl, hv, hu⟩ := two_args hR
  have hu := rel_str hu
  subst hu
  have hnone : xs = [] → ∀ (a : Option Addr) (c : Nat), Calls Tryd.prog 20 #[.slice a 0 c, .string sep] w fun e w' => match e with
      | .returned v => ∃ J F, RelR w' J (.str (joinB xs sep)) v F ∧ (∀ x, F x → w.heap.size ≤ x ∧ x < w'.heap.size) ∧ (∀ x, J x → (I x ∨ w.heap.size ≤ x) ∧ x < w'.heap.size ∧ ¬ F x) ∧ Below w.heap.size w w'
      | _ => False := by
    intro hx a c
    subst hx
    refine Calls.mono (Tryd.strings_Join_none a c sep w) fun e w' he => ?_
    obtain ⟨rfl, rfl⟩ := he
    exact str_ret (Below.refl _ _)
  cases hv with
  | leaf c v hl h =>
    generalize hrows : xs.map (fun s => [PV.str s]) = rows at h
    cases h with
    | slnil sz F => exact hnone (by simpa using hrows) _ _
    | sl sz rows a cap cs F hu hIa hs hc hr hcap =>
      have hlr : rows.length = xs.length := by rw [← hrows]; simp
      by_cases hx : xs = []
      · have hr0 : rows.length = 0 := by rw [hlr, hx]; rfl
        rw [hr0]
        exact hnone hx _ _
      · have hrn : ¬ rows = [] := by intro h; rw [h] at hrows; exact hx (by simpa using hrows)
        obtain ⟨bk, o, sp⟩ := a
        have hsp : sp = none := hs hrn
        subst hsp
        rw [hlr]
        refine Calls.mono (Tryd.strings_Join bk o cap xs sep w (fun j x hj => ?_) (hI _ (hIa hrn)) hN (by omega) (joinB_size xs sep ▸ hlen)) fun e w' he => ?_
        · have hrl : rows.flatten = xs.map PV.str := by rw [← hrows]; exact flat1 xs
          rw [hrl] at hr
          have hj' : (xs.map PV.str)[j]? = some (.str x) := by simp [hj]
          have hcs : j < cs.length := by
            have h2 := hr.len
            have := (List.getElem?_eq_some_iff.1 hj').1
            omega
          obtain ⟨G, hg⟩ := hr.getE j hj' (List.getElem?_eq_getElem hcs)
          have hcj := hc j _ (List.getElem?_eq_getElem hcs)
          generalize cs[j] = cv at hg hcj
          cases hg
          rw [Addr.add_lit] at hcj
          exact hcj
        · obtain ⟨rfl, hB⟩ := he
          exact str_ret hB

theorem r_Join0 (sep : ByteArray) : Real Tryd.prog 20 [.zc, .str sep] (.str (joinB [] sep)) := by
  refine ⟨⟨_, _, Tryd.func20, rfl, by kernel_rfl⟩, fun w hInv I vs val hR hI => ?_⟩
  obtain ⟨v, u, rfl, hv, hu⟩ := two_args hR
  have hu := rel_str hu
  subst hu
  cases hv with
  | leaf c v hl h =>
    cases h with
    | zc F =>
      refine Calls.mono (Tryd.strings_Join_none none 0 sep w) fun e w' he => ?_
      obtain ⟨rfl, rfl⟩ := he
      exact str_ret (Below.refl _ _)

theorem r_ReplaceAll (s old new : ByteArray) (hs : s.size < 4294967281) (h1 : 1 ≤ old.size) (hlen : s.size + Lib.countB s old * new.size ≤ 140737488355328) : Real Tryd.prog 27 [.str s, .str old, .str new] (.str (replB s old new)) := by
  refine ⟨⟨_, _, Tryd.func27, rfl, by kernel_rfl⟩, fun w hInv I vs val hR hI => ?_⟩
  obtain ⟨v, u, t, rfl, hv, hu, ht⟩ := three_args hR
  have hv := rel_str hv
  have hu := rel_str hu
  have ht := rel_str ht
  subst hv hu ht
  obtain ⟨m, hm⟩ := hInv.max 0 (by kernel_rfl)
  refine Calls.mono (Tryd.strings_ReplaceAll s old new m w hs hm h1 hlen) fun e w' he => ?_
  obtain ⟨rfl, hB⟩ := he
  exact str_ret hB
end Go.Av
