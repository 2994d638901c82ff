/- Walks: PlainNew. -/
import Derived.Test.YtjbokkoiicoahaaB4
namespace Go.Av
open Go Go.Proofs
set_option maxRecDepth 100000
set_option maxHeartbeats 4000000
set_option linter.unusedVariables false
set_option linter.unusedSimpArgs false
def plainGo : List GBox → Int → List ByteArray → Option (List GBox × Int)
  | xs, nv, [] => some (xs, nv)
  | xs, nv, u :: us => if hasB xs u inboxT = true then plainGo xs nv us else if modB xs nv u = true then plainGo (xs ++ [nBox nv u]) (nv + 1) us else none
def pnR (us : List ByteArray) : Option (List GBox × Int) := if us.length ≤ 3 then plainGo [] 1 us else none
def plainP (us : List ByteArray) : GPlain := match pnR us with | some (L, nv) => ⟨⟨L⟩, nv, []⟩ | none => ⟨⟨[]⟩, 0, []⟩
def plainB (us : List ByteArray) : Bool := (pnR us).isSome
theorem go_at {us : List ByteArray} {i : Nat} {u : ByteArray} {L : List GBox} {nv : Int} (h : us[i]? = some u) : plainGo L nv (us.drop i) = if hasB L u inboxT = true then plainGo L nv (us.drop (i + 1)) else if modB L nv u = true then plainGo (L ++ [nBox nv u]) (nv + 1) (us.drop (i + 1)) else none := by
 obtain ⟨hl, rfl⟩ := List.getElem?_eq_some_iff.1 h
 rw [List.drop_eq_getElem_cons hl]; rfl
theorem go_end {us : List ByteArray} {i : Nat} {L : List GBox} {nv : Int} (h : us.length ≤ i) : plainGo L nv (us.drop i) = some (L, nv) := by
 rw [List.drop_of_length_le h]; rfl
theorem mem_names (k : ByteArray) (xs : List GBox) (u : ByteArray) : memB k (namesB xs u) = hasB xs u k := by
  unfold memB namesB hasB
  rw [Bool.eq_iff_iff, List.any_eq_true, List.find?_isSome]
  constructor
  · rintro ⟨x, hx, he⟩
    obtain ⟨b, hb, rfl⟩ := List.mem_map.1 hx
    obtain ⟨hb, hu⟩ := List.mem_filter.1 hb
    exact ⟨b, hb, by simp only [boxIs, Bool.and_eq_true]; exact ⟨hu, he⟩⟩
  · rintro ⟨b, hb, he⟩
    simp only [boxIs, Bool.and_eq_true] at he
    exact ⟨b.Name, List.mem_map.2 ⟨b, List.mem_filter.2 ⟨hb, he.1⟩, rfl⟩, he.2⟩
theorem names_le (xs : List GBox) (u : ByteArray) : (namesB xs u).length ≤ xs.length := by
 unfold namesB; rw [List.length_map]; exact List.length_filter_le _ _
def okL (L : List GBox) (nv : Int) : Prop := (∀ b ∈ L, b.Valid < nv) ∧ ∀ q ∈ zsState (⟨L⟩ : GState), q ≤ 1048576
theorem okL_nil (nv : Int) : okL [] nv := ⟨fun b h => (by cases h), fun q h => (by simp [zsState, zsBoxS] at h; omega)⟩
theorem word_size {u : ByteArray} (h : wordOk u = true) : u.size ≤ 8 := by
 unfold wordOk inR at h
 simp only [Bool.and_eq_true, decide_eq_true_eq] at h
 omega
theorem okL_step {L : List GBox} {nv : Int} {u : ByteArray} (h : okL L nv) (hl : L.length ≤ 10) (hm : modB L nv u = true) : okL (L ++ [nBox nv u]) (nv + 1) := by
  have hw : wordOk u = true := by
    unfold modB okU at hm
    simp only [Bool.and_eq_true] at hm
    exact hm.1.1
  have hs := word_size hw
  refine ⟨fun b hb => ?_, fun q hq => ?_⟩
  · rcases List.mem_append.1 hb with hb | hb
    · have := h.1 b hb; omega
    · rw [List.mem_singleton.1 hb]; show nv < nv + 1; omega
  · have h2 := h.2
    simp only [zsState, zsBoxS, List.append_nil, List.mem_cons, List.mem_flatMap, List.length_append, List.length_cons, List.length_nil] at hq h2
    rcases hq with rfl | ⟨b, hb, hq⟩
    · omega
    · rcases List.mem_append.1 hb with hb | hb
      · exact h2 q (.inr ⟨b, hb, hq⟩)
      · rw [List.mem_singleton.1 hb] at hq
        have h5 : inboxT.size = 5 := rfl
        simp [zsBox, nBox, zsMailS] at hq
        rcases hq with rfl | rfl | rfl <;> omega
theorem modL_t {L : List GBox} {nv : Int} {u : ByteArray} (h : modB L nv u = true) : modL L nv u = L ++ [nBox nv u] := by rw [modL, if_pos h]
theorem modN_t {L : List GBox} {nv : Int} {u : ByteArray} (h : modB L nv u = true) : modN L nv u = nv + 1 := by rw [modN, if_pos h]
theorem modC_t {L : List GBox} {nv c : Int} {u : ByteArray} (hc : c = modC L nv u) (h : c = 0) : modB L nv u = true := by
  cases hm : modB L nv u with
  | true => rfl
  | false => rw [hc, modC, hm] at h; simp at h
theorem modC_f {L : List GBox} {nv c : Int} {u : ByteArray} (hc : c = modC L nv u) (h : c ≠ 0) : modB L nv u = false := by
  cases hm : modB L nv u with
  | false => rfl
  | true => rw [hc, modC, hm] at h; simp at h
theorem plain_none {us : List ByteArray} (h : pnR us = none) : plainP us = ⟨⟨[]⟩, 0, []⟩ ∧ plainB us = false := by simp [plainP, plainB, h]
theorem plain_some {us : List ByteArray} {L : List GBox} {nv : Int} (h : pnR us = some (L, nv)) : plainP us = ⟨⟨L⟩, nv, []⟩ ∧ plainB us = true := by simp [plainP, plainB, h]
def S33_1 (p0 : RR) (p1 : Int) (p2 : Int) (p3 : Int) (p4 : Int) (p5 : RR) : St := { sl := [.bad, .bad, .pt 2 0 0, .bad, .pt 4 0 0, .bad, .bad, .bad, .bad, .bad, .bad, .bad, .bad, .bad, .bad, .sl 1 p0, .int .i64 p1, .int .i64 p2, .bad, .bad, .bad, .bad, .bad, .bad, .bad, .bad, .bad, .bad, .bad, .bad, .bad, .bad, .bad, .bad, .bad, .bad, .bad, .bad, .bad, .bad, .bad, .bad, .bad, .bad, .bad, .bad], bl := [(2, ⟨.var, 3, [[.zc, .int .i64 p3, .zc]]⟩), (4, ⟨.var, 3, [[.own 7003, .int .i64 p4, .zc]]⟩), (7003, ⟨.arr, 5, p5⟩)] }
theorem r_impl_PlainNew (A : Alg) (hA : A = std) (xs : List ByteArray) (hz : ∀ q ∈ zsStringS xs, q ≤ 1048576) : Real Try.prog 33 [.sl 1 (List.map eString xs)] (.tup [.agg (eoPlain (plainP xs)), .bool (plainB xs)]) := by
 obtain ⟨a4, e8⟩ := nm (xs.map eString)
 have j3 := rlen_map hA e8
 refine real_args (args' := [.sl 1 a4]) (by subst e8; rfl) ?_
 have hlen : List.length xs ≤ 1048576 := hz _ (List.mem_cons_self ..)
 refine real tyOk Try.func33 (by kernel_rfl) (afun_of rfl ?_)
 refine gs (gr (ra hA 2 (by cbv) (od ?_)))
 refine gs (gs (gr (ra hA 3 (by cbv) (od ?_))))
 refine go_cond rfl (fun c1 => ?_) (fun c1 => ?_)
 ·
  have ec1 : 3 < (A.rlen a4) := gtr_t hA c1
  refine gs (gB (ra hA 3 (by cbv) ?_))
  refine ops_doneB (tw := [.cell 2 0 9001 5, .cell 2 2 9002 17]) (by cbv) ?_
  refine go_ret ⟨_, by cbv, ?_⟩
  show _ = PV.tup [.agg [.ow 5 ([]), .int .i64 0, .ow 17 ([])], .bool false]
  have E : pnR xs = none := by rw [pnR, if_neg (by omega)]
  simp only [(plain_none E).1, (plain_none E).2]
  rfl
 ·
  have ec1 : (A.rlen a4) ≤ 3 := gtr_f hA c1
  refine gk (gs (gr (ra hA 3 (by cbv) (od ?_))))
  refine gs (gs (gr (ra hA 3 (by cbv) (od ?_))))
  refine go_block ?_
  refine go_loopE (fun σ m => ∃ (i : Nat) (L : List GBox) (R : RR) (n : Int) (nv : Int), σ = (S33_1 a4 (A.rlen a4) n 0 nv R) ∧ (n = (i : Int) ∧ i ≤ List.length xs ∧ R = List.map eoBox L ∧ nv = (List.length L : Int) + 1 ∧ List.length L ≤ i ∧ okL L nv ∧ plainGo [] 1 xs = plainGo L nv (xs.drop i)) ∧ m = List.length xs - i) _ [.cell 4 0 7003 5, .up 7003, .up 4, .up 2] [2, 4, 15, 16, 17] [2, 4, 7003] (S33_1 a4 (A.rlen a4) 0 0 1 ([])) rfl (by cbv) ⟨0, [], [], 0, 1, rfl, ?_, rfl⟩ (fun σ m hI => ?_)
  ·
   exact ⟨rfl, Nat.zero_le _, rfl, rfl, Nat.le_refl _, okL_nil _, rfl⟩
  obtain ⟨i, L, R, n, nv, rfl, ⟨hn, hi, hR, hnv, hLi, hok, hE⟩, rfl⟩ := hI
  refine gs (gr (ra hA 1 (by cbv) (od ?_)))
  refine gs ?_
  refine go_cond rfl (fun c2 => ?_) (fun c2 => ?_)
  ·
   have ec2 : n < (A.rlen a4) := lss_t hA c2
   refine gk (gs ?_)
   refine go_block ?_
   refine gs (gr ?_)
   have g3 : (0 : Int) ≤ n := by
    omega
   have i7 : (Int.toNat n) < List.length xs := by
    omega
   obtain ⟨x3, hx3⟩ : ∃ x, (xs)[(Int.toNat n)]? = some x := ⟨_, List.getElem?_eq_getElem i7⟩
   have i8 := List.mem_of_getElem? hx3
   have f9 : a4[(Int.toNat n)]? = some [.str x3] := by
    exact map_at eString e8 hx3
   have d8 := hx3
   rw [hn] at d8
   have d8 : (xs)[i]? = some x3 := d8
   have j7 : (ByteArray.size x3 : Int) ≤ 4611686018427387904 := by
    have h := hz (ByteArray.size x3) (List.mem_cons_of_mem _ (List.mem_flatMap.2 ⟨_, i8, by simp [zsString]⟩)); omega
   have j4 := names_le L x3
   have hlL : List.length (⟨L⟩ : GState).Boxes ≤ 1048576 := by show List.length L ≤ _; omega
   have hzL : ∀ q ∈ zsState (⟨L⟩ : GState), q ≤ 1048576 := hok.2
   have hvL : ∀ b ∈ (⟨L⟩ : GState).Boxes, b.Valid < nv := hok.1
   have hn1 : nv ≤ 1000000 := by omega
   have hn2 : 0 ≤ nv := by omega
   refine ops_step rfl rfl (idx_sl rfl rfl rfl rfl rfl g3 rfl f9) ?_
   refine ra hA 2 (by cbv) (od ?_)
   refine gs (gs (gr (ra hA 3 (by cbv) ?_)))
   obtain ⟨g4, g7, hc5⟩ : ∃ (g4 : RR), g4 = List.map eString (namesB L x3) ∧ Real Try.prog 74 [.agg [.sl 5 (eraseR R)], .str x3] (.ow 1 g4) := ⟨_, rfl, by subst hR; simp only [erR_Box]; exact r_impl_BoxesOf A hA (⟨L⟩ : GState) x3 (by assumption)⟩
   have k0 := rlen_map hA g7
   refine ops_callV rfl rfl (by cbv) (by cbv) hc5 (.inl (by simp only [fresh, freshL, g7, frR_String, and_self])) (by cbv) ?_
   obtain ⟨i2, g9, hc7⟩ : ∃ (i2 : Bool), i2 = (memB (ByteArray.mk #[105, 110, 98, 111, 120]) (namesB L x3)) ∧ Real Try.prog 73 [.sl 1 (eraseR g4), .str (ByteArray.mk #[105, 110, 98, 111, 120])] (.bool i2) := ⟨_, rfl, by subst g7; simp only [erR_String]; exact r_slices_Contains_string_string_ A hA (namesB L x3) (ByteArray.mk #[105, 110, 98, 111, 120]) (by first | omega | (rw [List.length_take]; omega))⟩
   refine ops_callV rfl rfl (by cbv) (by cbv) hc7 (.inl trivial) (by cbv) ?_
   refine od ?_
   refine go_cond rfl (fun c8 => ?_) (fun c8 => ?_)
   ·
    refine go_exit ⟨fun _ => ?_, fun h => absurd rfl h⟩
    refine gB (ra hA 2 (by cbv) ?_)
    refine ops_doneB (tw := []) (by cbv) ?_
    refine ⟨(S33_1 a4 (A.rlen a4) (A.num .add .i64 n 1) 0 nv R), List.length xs - (i + 1), ?_, by cbv, i + 1, L, R, (A.num .add .i64 n 1), nv, rfl, ?_, rfl⟩
    ·
     omega
    ·
     have hh : hasB L x3 inboxT = true := by rw [← mem_names, show memB inboxT _ = _ from g9.symm]; assumption
     refine ⟨by rw [add_i64 hA (by omega) (by omega)]; omega, by omega, hR, by omega, by omega, hok, ?_⟩
     rw [hE, go_at d8, if_pos hh]
   ·
    refine gk (gs (gr (ra hA 6 (by cbv) ?_)))
    obtain ⟨c5, e0, e6, d7, g8, f5, j5⟩ : ∃ (c5 : RR) (e0 : Int) (e6 : Int), c5 = List.map eoBox (modL L nv x3) ∧ e0 = (modN L nv x3) ∧ e6 = (modC L nv x3) ∧ Real Try.prog 75 [.agg [.sl 5 (eraseR R)], .int .i64 nv, .agg [.int .i64 1, .str x3, .str (ByteArray.mk #[105, 110, 98, 111, 120]), .str ByteArray.empty, .int .i64 0, .zc, .int .i64 0, .str ByteArray.empty]] (.tup [.agg [.ow 5 c5], .int .i64 e0, .int .i64 e6]) := ⟨_, _, _, rfl, rfl, rfl, by subst hR; simp only [erR_Box]; exact r_impl_ModelCall A hA (⟨L⟩ : GState) nv x3 (by assumption) (by assumption) (by assumption) (by assumption) (by assumption)⟩
    have j0 := rlen_map hA d7
    refine ops_callV rfl rfl (by cbv) (by cbv) j5 (.inl (by simp only [fresh, freshL, d7, g8, f5, frR_Box, and_self])) (by cbv) ?_
    refine ra hA 8 (by cbv) (od ?_)
    refine gs (gs (gr (ra hA 2 (by cbv) (od ?_))))
    refine go_cond rfl (fun c11 => ?_) (fun c11 => ?_)
    ·
     have j8 : e6 ≠ 0 := neq_t hA c11
     refine gs (gB (ra hA 3 (by cbv) ?_))
     refine ops_doneB (tw := [.cell 2 0 9001 5, .cell 2 2 9002 17]) (by cbv) ?_
     refine go_ret ⟨_, by cbv, ?_⟩
     show _ = PV.tup [.agg [.ow 5 ([]), .int .i64 0, .ow 17 ([])], .bool false]
     have hh : hasB L x3 inboxT = false := by rw [← mem_names, show memB inboxT _ = _ from g9.symm]; assumption
     have hm : modB L nv x3 = false := modC_f f5 (by assumption)
     have E : pnR xs = none := by rw [pnR, if_pos (by omega), hE, go_at d8, if_neg (by rw [hh]; decide), if_neg (by rw [hm]; decide)]
     simp only [(plain_none E).1, (plain_none E).2]
     rfl
    ·
     have j8 : e6 = 0 := neq_f hA c11
     refine gk (gr (ra hA 6 (by cbv) (od ?_)))
     refine gB (ra hA 2 (by cbv) ?_)
     refine ops_doneB (tw := [.drop 7003, .ren 33 7003, .up 7003, .up 24, .up 7, .up 4, .up 2]) (by cbv) ?_
     refine ⟨(S33_1 a4 (A.rlen a4) (A.num .add .i64 n 1) 0 e0 c5), List.length xs - (i + 1), ?_, by cbv, i + 1, (L ++ [nBox nv x3]), c5, (A.num .add .i64 n 1), e0, rfl, ?_, rfl⟩
     ·
      omega
     ·
      have hh : hasB L x3 inboxT = false := by rw [← mem_names, show memB inboxT _ = _ from g9.symm]; assumption
      have hm : modB L nv x3 = true := modC_t f5 (by assumption)
      have en : e0 = nv + 1 := by rw [g8]; exact modN_t hm
      refine ⟨by rw [add_i64 hA (by omega) (by omega)]; omega, by omega, by rw [d7, modL_t hm], by rw [en, List.length_append]; simp only [List.length_cons, List.length_nil]; omega, by rw [List.length_append]; simp only [List.length_cons, List.length_nil]; omega, by rw [en]; exact okL_step hok (by omega) hm, ?_⟩
      rw [hE, go_at d8, if_neg (by rw [hh]; decide), if_pos hm, en]
  ·
   have ec2 : (A.rlen a4) ≤ n := lss_f hA c2
   refine go_exit ⟨fun _ => ?_, fun h => absurd rfl h⟩
   refine gs (gB (ra hA 3 (by cbv) ?_))
   refine ops_doneB (tw := [.cell 2 2 9009 17]) (by cbv) ?_
   refine go_ret ⟨_, by cbv, ?_⟩
   show _ = PV.tup [.agg [.ow 5 R, .int .i64 nv, .ow 17 ([])], .bool true]
   have E : pnR xs = some (L, nv) := by rw [pnR, if_pos (by omega), hE, go_end (by omega)]
   simp only [(plain_some E).1, (plain_some E).2, hR]
   rfl
def S31_1 (p0 : RR) (p1 : Int) (p2 : Int) (p3 : Int) (p4 : RR) : St := { sl := [.sl 1 p0, .bad, .pt 2 0 0, .bad, .pt 4 0 0, .int .i64 p1, .bad, .bad, .bad, .bad, .bad, .bad, .bad, .bad, .bad, .bad, .bad, .bad, .bad, .bad, .bad, .bad, .bad, .bad, .bad, .bad, .bad, .bad, .bad, .bad, .bad, .bad, .bad, .bad, .bad, .bad, .bad, .bad, .bad, .bad, .bad, .bad, .bad, .bad, .bad, .bad, .bad, .bad, .bad, .bad, .bad, .bad, .bad, .bad, .bad], bl := [(2, ⟨.var, 3, [[.zc, .int .i64 p2, .zc]]⟩), (4, ⟨.var, 3, [[.own 7003, .int .i64 p3, .zc]]⟩), (7003, ⟨.arr, 5, p4⟩)] }
theorem r_spec_PlainNew (A : Alg) (hA : A = std) (xs : List ByteArray) (hz : ∀ q ∈ zsStringS xs, q ≤ 1048576) : Real Try.prog 31 [.sl 1 (List.map eString xs)] (.tup [.agg (eoPlain (plainP xs)), .bool (plainB xs)]) := by
 obtain ⟨a4, e8⟩ := nm (xs.map eString)
 have j3 := rlen_map hA e8
 refine real_args (args' := [.sl 1 a4]) (by subst e8; rfl) ?_
 have hlen : List.length xs ≤ 1048576 := hz _ (List.mem_cons_self ..)
 refine real tyOk Try.func31 (by kernel_rfl) (afun_of rfl ?_)
 refine gs (gr (ra hA 2 (by cbv) (od ?_)))
 refine gs (gr (ra hA 3 (by cbv) (od ?_)))
 refine gs (gs (gr (ra hA 3 (by cbv) (od ?_))))
 refine go_cond rfl (fun c1 => ?_) (fun c1 => ?_)
 ·
  have ec1 : 3 < (A.rlen a4) := gtr_t hA c1
  refine gs (gB (ra hA 3 (by cbv) ?_))
  refine ops_doneB (tw := [.cell 2 0 9001 5, .cell 2 2 9002 17]) (by cbv) ?_
  refine go_ret ⟨_, by cbv, ?_⟩
  show _ = PV.tup [.agg [.ow 5 ([]), .int .i64 0, .ow 17 ([])], .bool false]
  have E : pnR xs = none := by rw [pnR, if_neg (by omega)]
  simp only [(plain_none E).1, (plain_none E).2]
  rfl
 ·
  have ec1 : (A.rlen a4) ≤ 3 := gtr_f hA c1
  refine gk (gs (gs (gr (ra hA 1 (by cbv) (od ?_)))))
  refine go_block ?_
  refine go_loopE (fun σ m => ∃ (i : Nat) (L : List GBox) (R : RR) (n : Int) (nv : Int), σ = (S31_1 a4 n 0 nv R) ∧ (n = (i : Int) ∧ i ≤ List.length xs ∧ R = List.map eoBox L ∧ nv = (List.length L : Int) + 1 ∧ List.length L ≤ i ∧ okL L nv ∧ plainGo [] 1 xs = plainGo L nv (xs.drop i)) ∧ m = List.length xs - i) _ [.cell 4 0 7003 5, .up 7003, .up 4, .up 2] [0, 2, 4, 5] [2, 4, 7003] (S31_1 a4 0 0 1 ([])) rfl (by cbv) ⟨0, [], [], 0, 1, rfl, ?_, rfl⟩ (fun σ m hI => ?_)
  ·
   exact ⟨rfl, Nat.zero_le _, rfl, rfl, Nat.le_refl _, okL_nil _, rfl⟩
  obtain ⟨i, L, R, n, nv, rfl, ⟨hn, hi, hR, hnv, hLi, hok, hE⟩, rfl⟩ := hI
  refine gs (gs (gr (ra hA 4 (by cbv) (od ?_))))
  refine go_cond rfl (fun c2 => ?_) (fun c2 => ?_)
  ·
   have ec2 : n < (A.rlen a4) := lss_t hA c2
   refine gk (gs ?_)
   refine go_block ?_
   refine gs ?_
   have g3 : (0 : Int) ≤ n := by
    omega
   have i7 : (Int.toNat n) < List.length xs := by
    omega
   obtain ⟨x3, hx3⟩ : ∃ x, (xs)[(Int.toNat n)]? = some x := ⟨_, List.getElem?_eq_getElem i7⟩
   have i8 := List.mem_of_getElem? hx3
   have f9 : a4[(Int.toNat n)]? = some [.str x3] := by
    exact map_at eString e8 hx3
   have d8 := hx3
   rw [hn] at d8
   have d8 : (xs)[i]? = some x3 := d8
   have j7 : (ByteArray.size x3 : Int) ≤ 4611686018427387904 := by
    have h := hz (ByteArray.size x3) (List.mem_cons_of_mem _ (List.mem_flatMap.2 ⟨_, i8, by simp [zsString]⟩)); omega
   have j4 := names_le L x3
   have hlL : List.length (⟨L⟩ : GState).Boxes ≤ 1048576 := by show List.length L ≤ _; omega
   have hzL : ∀ q ∈ zsState (⟨L⟩ : GState), q ≤ 1048576 := hok.2
   have hvL : ∀ b ∈ (⟨L⟩ : GState).Boxes, b.Valid < nv := hok.1
   have hn1 : nv ≤ 1000000 := by omega
   have hn2 : 0 ≤ nv := by omega
   obtain ⟨a0, a3, a1, a2, a9, a5, e5, f0, f2, f1, d5, e1, hc5⟩ : ∃ (a0 : Int) (a3 : ByteArray) (a1 : ByteArray) (a2 : Int) (a9 : RR) (a5 : Bool), a0 = ((getB L x3 (ByteArray.mk #[105, 110, 98, 111, 120])).Valid) ∧ a3 = ((getB L x3 (ByteArray.mk #[105, 110, 98, 111, 120])).User) ∧ a1 = ((getB L x3 (ByteArray.mk #[105, 110, 98, 111, 120])).Name) ∧ a2 = ((getB L x3 (ByteArray.mk #[105, 110, 98, 111, 120])).Next) ∧ a9 = List.map eoMail ((getB L x3 (ByteArray.mk #[105, 110, 98, 111, 120])).Mails) ∧ a5 = (hasB L x3 (ByteArray.mk #[105, 110, 98, 111, 120])) ∧ Real Try.prog 71 [.agg [.sl 5 (eraseR R)], .str x3, .str (ByteArray.mk #[105, 110, 98, 111, 120])] (.tup [.agg [.int .i64 a0, .str a3, .str a1, .int .i64 a2, .ow 3 a9], .bool a5]) := ⟨_, _, _, _, _, _, rfl, rfl, rfl, rfl, rfl, rfl, by subst hR; simp only [erR_Box]; exact r_spec_BoxOf A hA (⟨L⟩ : GState) x3 (ByteArray.mk #[105, 110, 98, 111, 120]) (by assumption)⟩
   have j1 := rlen_map hA d5
   refine go_drawE [0, 1, 2, 3, 4, 5, 6, 7, 8, 11, 9, 10, 12] (by cbv) rfl rfl ({ sl := [.sl 1 a4, .bad, .pt 2 0 0, .bad, .pt 4 0 0, .int .i64 n, .pt 6 0 0, .bool a5, .bad, .bad, .bad, .bad, .bad, .bad, .bad, .bad, .int .i64 n, .sl 1 a4, .int .i64 (A.rlen a4), .bool (A.cmp .lss n (A.rlen a4)), .bad, .bad, .tup [.agg [.int .i64 a0, .str a3, .str a1, .int .i64 a2, .own 4029], .bool a5], .pt 4 0 0, .agg [.own 7003], .sl 1 a4, .int .i64 n, .rd [.str x3], .str x3, .tup [.agg [.int .i64 a0, .str a3, .str a1, .int .i64 a2, .own 4029], .bool a5], .agg [.int .i64 a0, .str a3, .str a1, .int .i64 a2, .own 4029], .bool a5, .bad, .bad, .bad, .bad, .bad, .bad, .bad, .bad, .bad, .bad, .bad, .bad, .bad, .bad, .bad, .bad, .bad, .bad, .bad, .bad, .bad, .bad, .bad], bl := [(2, ⟨.var, 3, [[.zc, .int .i64 0, .zc]]⟩), (4, ⟨.var, 3, [[.own 7003, .int .i64 nv, .zc]]⟩), (6, ⟨.var, 5, [[.int .i64 a0, .str a3, .str a1, .int .i64 a2, .own 4029]]⟩), (4029, ⟨.arr, 3, a9⟩), (7003, ⟨.arr, 5, R⟩)] } : St) (fun dR dK dhR dhF => ?_) ?_
   ·
    have i5 : ∀ (dn : Nat) (dB9 : Bool) (a8 : Bool) (dQ9 : PV) (b4 : PV), (dB9 = true → dQ9 = .bool a5) → (a8 = true → b4 = .bool a5) → (a8 = true → dB9 = true) → cntF [true, true, true, true, true, true, true, true, true, dB9, true, true, a8] = dn → dwp T ⟨Real Try.prog, RealM Try.prog, RealC Try.prog⟩ dR dK dn [true, true, true, true, true, true, true, true, true, dB9, true, true, a8] ({ sl := [.sl 1 a4, .bad, .pt 2 0 0, .bad, .pt 4 0 0, .int .i64 n, .pt 6 0 0, b4, .bad, .bad, .bad, .bad, .bad, .bad, .bad, .bad, .int .i64 n, .sl 1 a4, .int .i64 (A.rlen a4), .bool (A.cmp .lss n (A.rlen a4)), .bad, .bad, .tup [.agg [.int .i64 a0, .str a3, .str a1, .int .i64 a2, .own 4029], .bool a5], .pt 4 0 0, .agg [.own 7003], .sl 1 a4, .int .i64 n, .rd [.str x3], .str x3, .tup [.agg [.int .i64 a0, .str a3, .str a1, .int .i64 a2, .own 4029], .bool a5], .agg [.int .i64 a0, .str a3, .str a1, .int .i64 a2, .own 4029], dQ9, .bad, .bad, .bad, .bad, .bad, .bad, .bad, .bad, .bad, .bad, .bad, .bad, .bad, .bad, .bad, .bad, .bad, .bad, .bad, .bad, .bad, .bad, .bad], bl := [(2, ⟨.var, 3, [[.zc, .int .i64 0, .zc]]⟩), (4, ⟨.var, 3, [[.own 7003, .int .i64 nv, .zc]]⟩), (6, ⟨.var, 5, [[.int .i64 a0, .str a3, .str a1, .int .i64 a2, .own 4029]]⟩), (4029, ⟨.arr, 3, a9⟩), (7003, ⟨.arr, 5, R⟩)] } : St) := by
     intro dn
     induction dn with
     | zero =>
      intro dB9 a8 dQ9 b4 dh9 c4 j2 dhn
      have y9 : dB9 = true := cntF_zero  _ dhn 9 (by show 9 < 13; decide)
      subst y9
      have y9 := dh9 rfl
      subst y9
      have y12 : a8 = true := cntF_zero  _ dhn 12 (by show 12 < 13; decide)
      subst y12
      have y12 := c4 rfl
      subst y12
      exact dwp_last dhF
     | succ dn ih =>
      intro dB9 a8 dQ9 b4 dh9 c4 j2 dhn
      subst dhR
      refine dwp_next (is := [0, 1, 2, 3, 4, 5, 6, 7, 8, 9, 10, 11, 12]) rfl ?_
      refine allRdy_none rfl ?_
      refine allRdy_none rfl ?_
      refine allRdy_none rfl ?_
      refine allRdy_none rfl ?_
      refine allRdy_none rfl ?_
      refine allRdy_none rfl ?_
      refine allRdy_none rfl ?_
      refine allRdy_none rfl ?_
      refine allRdy_none rfl ?_
      refine allRdy_q rfl rfl (fun h0 h1 => ?_) ?_
      ·
       cases (show dB9 = false from h0)
       refine ra hA 1 (by cbv) ?_
       exact ops_done (dwp_to [] (by cbv) rfl (ih true a8 (.bool a5) (b4) (fun _ => rfl) c4 (fun _ => rfl) (cnt_dec h0 (by show 9 < 13; decide) dhn)))
      refine allRdy_none rfl ?_
      refine allRdy_none rfl ?_
      refine allRdy_q rfl rfl (fun h0 h1 => ?_) ?_
      ·
       cases (show a8 = false from h0)
       obtain rfl : dB9 = true := h1.1
       obtain rfl := dh9 rfl
       refine ra hA 1 (by cbv) ?_
       exact ops_done (dwp_to [] (by cbv) rfl (ih true true (.bool a5) (.bool a5) (fun _ => rfl) (fun _ => rfl) (fun _ => rfl) (cnt_dec h0 (by show 12 < 13; decide) dhn)))
      exact trivial
    have i6 : ∀ (dn : Nat) (dB7 : Bool) (dB8 : Bool) (dB9 : Bool) (dQ7 : PV) (dQ8 : PV) (dQ9 : PV), (dB7 = true → dQ7 = .tup [.agg [.int .i64 a0, .str a3, .str a1, .int .i64 a2, .own 4029], .bool a5]) → (dB8 = true → dQ8 = .agg [.int .i64 a0, .str a3, .str a1, .int .i64 a2, .own 4029]) → (dB9 = true → dQ9 = .bool a5) → (dB8 = true → dB7 = true) → (dB9 = true → dB7 = true) → cntF [true, true, true, true, true, true, true, dB7, dB8, dB9, true, false, false] = dn → dwp T ⟨Real Try.prog, RealM Try.prog, RealC Try.prog⟩ dR dK dn [true, true, true, true, true, true, true, dB7, dB8, dB9, true, false, false] ({ sl := [.sl 1 a4, .bad, .pt 2 0 0, .bad, .pt 4 0 0, .int .i64 n, .pt 6 0 0, .bad, .bad, .bad, .bad, .bad, .bad, .bad, .bad, .bad, .int .i64 n, .sl 1 a4, .int .i64 (A.rlen a4), .bool (A.cmp .lss n (A.rlen a4)), .bad, .bad, dQ7, .pt 4 0 0, .agg [.own 7003], .sl 1 a4, .int .i64 n, .rd [.str x3], .str x3, .tup [.agg [.int .i64 a0, .str a3, .str a1, .int .i64 a2, .own 4029], .bool a5], dQ8, dQ9, .bad, .bad, .bad, .bad, .bad, .bad, .bad, .bad, .bad, .bad, .bad, .bad, .bad, .bad, .bad, .bad, .bad, .bad, .bad, .bad, .bad, .bad, .bad], bl := [(2, ⟨.var, 3, [[.zc, .int .i64 0, .zc]]⟩), (4, ⟨.var, 3, [[.own 7003, .int .i64 nv, .zc]]⟩), (6, ⟨.var, 5, [[.int .i64 0, .str ByteArray.empty, .str ByteArray.empty, .int .i64 0, .zc]]⟩), (4029, ⟨.arr, 3, a9⟩), (7003, ⟨.arr, 5, R⟩)] } : St) := by
     intro dn
     induction dn with
     | zero =>
      intro dB7 dB8 dB9 dQ7 dQ8 dQ9 dh7 dh8 dh9 b2 g5 dhn
      exact absurd (show false = true from cntF_zero  _ dhn 11 (by show 11 < 13; decide)) (by decide)
     | succ dn ih =>
      intro dB7 dB8 dB9 dQ7 dQ8 dQ9 dh7 dh8 dh9 b2 g5 dhn
      subst dhR
      refine dwp_next (is := [0, 1, 2, 3, 4, 5, 6, 7, 8, 9, 10, 11, 12]) rfl ?_
      refine allRdy_none rfl ?_
      refine allRdy_none rfl ?_
      refine allRdy_none rfl ?_
      refine allRdy_none rfl ?_
      refine allRdy_none rfl ?_
      refine allRdy_none rfl ?_
      refine allRdy_none rfl ?_
      refine allRdy_q rfl rfl (fun h0 h1 => ?_) ?_
      ·
       cases (show dB7 = false from h0)
       refine ra hA 1 (by cbv) ?_
       exact ops_done (dwp_to [] (by cbv) rfl (ih true dB8 dB9 (.tup [.agg [.int .i64 a0, .str a3, .str a1, .int .i64 a2, .own 4029], .bool a5]) (dQ8) (dQ9) (fun _ => rfl) dh8 dh9 (fun _ => rfl) (fun _ => rfl) (cnt_dec h0 (by show 7 < 13; decide) dhn)))
      refine allRdy_q rfl rfl (fun h0 h1 => ?_) ?_
      ·
       cases (show dB8 = false from h0)
       obtain rfl : dB7 = true := h1.1
       obtain rfl := dh7 rfl
       refine ra hA 1 (by cbv) ?_
       exact ops_done (dwp_to [] (by cbv) rfl (ih true true dB9 (.tup [.agg [.int .i64 a0, .str a3, .str a1, .int .i64 a2, .own 4029], .bool a5]) (.agg [.int .i64 a0, .str a3, .str a1, .int .i64 a2, .own 4029]) (dQ9) (fun _ => rfl) (fun _ => rfl) dh9 (fun _ => rfl) (fun _ => rfl) (cnt_dec h0 (by show 8 < 13; decide) dhn)))
      refine allRdy_q rfl rfl (fun h0 h1 => ?_) ?_
      ·
       cases (show dB9 = false from h0)
       obtain rfl : dB7 = true := h1.1
       obtain rfl := dh7 rfl
       refine ra hA 1 (by cbv) ?_
       exact ops_done (dwp_to [] (by cbv) rfl (ih true dB8 true (.tup [.agg [.int .i64 a0, .str a3, .str a1, .int .i64 a2, .own 4029], .bool a5]) (dQ8) (.bool a5) (fun _ => rfl) dh8 (fun _ => rfl) (fun _ => rfl) (fun _ => rfl) (cnt_dec h0 (by show 9 < 13; decide) dhn)))
      refine allRdy_none rfl ?_
      refine allRdy_q rfl rfl (fun h0 h1 => ?_) ?_
      ·
       obtain rfl : dB8 = true := h1.2.1
       obtain rfl := dh8 rfl
       obtain rfl : dB7 = true := b2 rfl
       obtain rfl := dh7 rfl
       refine ra hA 1 (by cbv) ?_
       exact ops_done (dwp_to [] (by cbv) rfl (i5 dn dB9 false (dQ9) (.bad) dh9 (fun h => absurd h (by decide)) (fun h => absurd h (by decide)) (cnt_dec h0 (by show 11 < 13; decide) dhn)))
      refine allRdy_q rfl rfl (fun _ h1 => absurd (show false = true from h1.2.1) (by decide)) ?_
      exact trivial
    have H_6 : ∀ (dn : Nat) (dB7 : Bool) (dB8 : Bool) (dB9 : Bool) (dQ7 : PV) (dQ8 : PV) (dQ9 : PV), (dB7 = true → dQ7 = .tup [.agg [.int .i64 a0, .str a3, .str a1, .int .i64 a2, .own 4029], .bool a5]) → (dB8 = true → dQ8 = .agg [.int .i64 a0, .str a3, .str a1, .int .i64 a2, .own 4029]) → (dB9 = true → dQ9 = .bool a5) → (dB8 = true → dB7 = true) → (dB9 = true → dB7 = true) → cntF [true, true, true, true, true, true, true, dB7, dB8, dB9, false, false, false] = dn → dwp T ⟨Real Try.prog, RealM Try.prog, RealC Try.prog⟩ dR dK dn [true, true, true, true, true, true, true, dB7, dB8, dB9, false, false, false] ({ sl := [.sl 1 a4, .bad, .pt 2 0 0, .bad, .pt 4 0 0, .int .i64 n, .bad, .bad, .bad, .bad, .bad, .bad, .bad, .bad, .bad, .bad, .int .i64 n, .sl 1 a4, .int .i64 (A.rlen a4), .bool (A.cmp .lss n (A.rlen a4)), .bad, .bad, dQ7, .pt 4 0 0, .agg [.own 7003], .sl 1 a4, .int .i64 n, .rd [.str x3], .str x3, .tup [.agg [.int .i64 a0, .str a3, .str a1, .int .i64 a2, .own 4029], .bool a5], dQ8, dQ9, .bad, .bad, .bad, .bad, .bad, .bad, .bad, .bad, .bad, .bad, .bad, .bad, .bad, .bad, .bad, .bad, .bad, .bad, .bad, .bad, .bad, .bad, .bad], bl := [(2, ⟨.var, 3, [[.zc, .int .i64 0, .zc]]⟩), (4, ⟨.var, 3, [[.own 7003, .int .i64 nv, .zc]]⟩), (4029, ⟨.arr, 3, a9⟩), (7003, ⟨.arr, 5, R⟩)] } : St) := by
     intro dn
     induction dn with
     | zero =>
      intro dB7 dB8 dB9 dQ7 dQ8 dQ9 dh7 dh8 dh9 b2 g5 dhn
      exact absurd (show false = true from cntF_zero  _ dhn 10 (by show 10 < 13; decide)) (by decide)
     | succ dn ih =>
      intro dB7 dB8 dB9 dQ7 dQ8 dQ9 dh7 dh8 dh9 b2 g5 dhn
      subst dhR
      refine dwp_next (is := [0, 1, 2, 3, 4, 5, 6, 7, 8, 9, 10, 11, 12]) rfl ?_
      refine allRdy_none rfl ?_
      refine allRdy_none rfl ?_
      refine allRdy_none rfl ?_
      refine allRdy_none rfl ?_
      refine allRdy_none rfl ?_
      refine allRdy_none rfl ?_
      refine allRdy_none rfl ?_
      refine allRdy_q rfl rfl (fun h0 h1 => ?_) ?_
      ·
       cases (show dB7 = false from h0)
       refine ra hA 1 (by cbv) ?_
       exact ops_done (dwp_to [] (by cbv) rfl (ih true dB8 dB9 (.tup [.agg [.int .i64 a0, .str a3, .str a1, .int .i64 a2, .own 4029], .bool a5]) (dQ8) (dQ9) (fun _ => rfl) dh8 dh9 (fun _ => rfl) (fun _ => rfl) (cnt_dec h0 (by show 7 < 13; decide) dhn)))
      refine allRdy_q rfl rfl (fun h0 h1 => ?_) ?_
      ·
       cases (show dB8 = false from h0)
       obtain rfl : dB7 = true := h1.1
       obtain rfl := dh7 rfl
       refine ra hA 1 (by cbv) ?_
       exact ops_done (dwp_to [] (by cbv) rfl (ih true true dB9 (.tup [.agg [.int .i64 a0, .str a3, .str a1, .int .i64 a2, .own 4029], .bool a5]) (.agg [.int .i64 a0, .str a3, .str a1, .int .i64 a2, .own 4029]) (dQ9) (fun _ => rfl) (fun _ => rfl) dh9 (fun _ => rfl) (fun _ => rfl) (cnt_dec h0 (by show 8 < 13; decide) dhn)))
      refine allRdy_q rfl rfl (fun h0 h1 => ?_) ?_
      ·
       cases (show dB9 = false from h0)
       obtain rfl : dB7 = true := h1.1
       obtain rfl := dh7 rfl
       refine ra hA 1 (by cbv) ?_
       exact ops_done (dwp_to [] (by cbv) rfl (ih true dB8 true (.tup [.agg [.int .i64 a0, .str a3, .str a1, .int .i64 a2, .own 4029], .bool a5]) (dQ8) (.bool a5) (fun _ => rfl) dh8 (fun _ => rfl) (fun _ => rfl) (fun _ => rfl) (cnt_dec h0 (by show 9 < 13; decide) dhn)))
      refine allRdy_q rfl rfl (fun h0 h1 => ?_) ?_
      ·
       refine ra hA 1 (by cbv) ?_
       exact ops_done (dwp_to [.up 7003, .up 4029, .up 6, .up 4, .up 2] (by cbv) rfl (i6 dn dB7 dB8 dB9 (dQ7) (dQ8) (dQ9) dh7 dh8 dh9 b2 g5 (cnt_dec h0 (by show 10 < 13; decide) dhn)))
      refine allRdy_q rfl rfl (fun _ h1 => absurd (show false = true from h1.1) (by decide)) ?_
      refine allRdy_q rfl rfl (fun _ h1 => absurd (show false = true from h1.2.1) (by decide)) ?_
      exact trivial
    have j6 : ∀ (dn : Nat) (dB0 : Bool) (dB1 : Bool) (dB2 : Bool) (dB3 : Bool) (dB4 : Bool) (dB5 : Bool) (dQ0 : PV) (dQ1 : PV) (dQ2 : PV) (dQ3 : PV) (dQ4 : PV) (dQ5 : PV), (dB0 = true → dQ0 = .pt 4 0 0) → (dB1 = true → dQ1 = .agg [.own 7003]) → (dB2 = true → dQ2 = .sl 1 a4) → (dB3 = true → dQ3 = .int .i64 n) → (dB4 = true → dQ4 = .rd [.str x3]) → (dB5 = true → dQ5 = .str x3) → (dB1 = true → dB0 = true) → (dB4 = true → dB2 = true) → (dB4 = true → dB3 = true) → (dB5 = true → dB4 = true) → cntF [dB0, dB1, dB2, dB3, dB4, dB5, false, false, false, false, true, false, false] = dn → dwp T ⟨Real Try.prog, RealM Try.prog, RealC Try.prog⟩ dR dK dn [dB0, dB1, dB2, dB3, dB4, dB5, false, false, false, false, true, false, false] ({ sl := [.sl 1 a4, .bad, .pt 2 0 0, .bad, .pt 4 0 0, .int .i64 n, .pt 6 0 0, .bad, .bad, .bad, .bad, .bad, .bad, .bad, .bad, .bad, .int .i64 n, .sl 1 a4, .int .i64 (A.rlen a4), .bool (A.cmp .lss n (A.rlen a4)), .bad, .bad, .bad, dQ0, dQ1, dQ2, dQ3, dQ4, dQ5, .bad, .bad, .bad, .bad, .bad, .bad, .bad, .bad, .bad, .bad, .bad, .bad, .bad, .bad, .bad, .bad, .bad, .bad, .bad, .bad, .bad, .bad, .bad, .bad, .bad, .bad], bl := [(2, ⟨.var, 3, [[.zc, .int .i64 0, .zc]]⟩), (4, ⟨.var, 3, [[.own 7003, .int .i64 nv, .zc]]⟩), (6, ⟨.var, 5, [[.int .i64 0, .str ByteArray.empty, .str ByteArray.empty, .int .i64 0, .zc]]⟩), (7003, ⟨.arr, 5, R⟩)] } : St) := by
     intro dn
     induction dn with
     | zero =>
      intro dB0 dB1 dB2 dB3 dB4 dB5 dQ0 dQ1 dQ2 dQ3 dQ4 dQ5 dh0 dh1 dh2 dh3 dh4 dh5 b0 d1 d0 c7 dhn
      exact absurd (show false = true from cntF_zero  _ dhn 6 (by show 6 < 13; decide)) (by decide)
     | succ dn ih =>
      intro dB0 dB1 dB2 dB3 dB4 dB5 dQ0 dQ1 dQ2 dQ3 dQ4 dQ5 dh0 dh1 dh2 dh3 dh4 dh5 b0 d1 d0 c7 dhn
      subst dhR
      refine dwp_next (is := [0, 1, 2, 3, 4, 5, 6, 7, 8, 9, 10, 11, 12]) rfl ?_
      refine allRdy_q rfl rfl (fun h0 h1 => ?_) ?_
      ·
       cases (show dB0 = false from h0)
       refine ra hA 1 (by cbv) ?_
       exact ops_done (dwp_to [] (by cbv) rfl (ih true dB1 dB2 dB3 dB4 dB5 (.pt 4 0 0) (dQ1) (dQ2) (dQ3) (dQ4) (dQ5) (fun _ => rfl) dh1 dh2 dh3 dh4 dh5 (fun _ => rfl) d1 d0 c7 (cnt_dec h0 (by show 0 < 13; decide) dhn)))
      refine allRdy_q rfl rfl (fun h0 h1 => ?_) ?_
      ·
       cases (show dB1 = false from h0)
       obtain rfl : dB0 = true := h1.1
       obtain rfl := dh0 rfl
       refine ra hA 1 (by cbv) ?_
       exact ops_done (dwp_to [] (by cbv) rfl (ih true true dB2 dB3 dB4 dB5 (.pt 4 0 0) (.agg [.own 7003]) (dQ2) (dQ3) (dQ4) (dQ5) (fun _ => rfl) (fun _ => rfl) dh2 dh3 dh4 dh5 (fun _ => rfl) d1 d0 c7 (cnt_dec h0 (by show 1 < 13; decide) dhn)))
      refine allRdy_q rfl rfl (fun h0 h1 => ?_) ?_
      ·
       cases (show dB2 = false from h0)
       refine ra hA 1 (by cbv) ?_
       exact ops_done (dwp_to [] (by cbv) rfl (ih dB0 dB1 true dB3 dB4 dB5 (dQ0) (dQ1) (.sl 1 a4) (dQ3) (dQ4) (dQ5) dh0 dh1 (fun _ => rfl) dh3 dh4 dh5 b0 (fun _ => rfl) d0 c7 (cnt_dec h0 (by show 2 < 13; decide) dhn)))
      refine allRdy_q rfl rfl (fun h0 h1 => ?_) ?_
      ·
       cases (show dB3 = false from h0)
       refine ra hA 1 (by cbv) ?_
       exact ops_done (dwp_to [] (by cbv) rfl (ih dB0 dB1 dB2 true dB4 dB5 (dQ0) (dQ1) (dQ2) (.int .i64 n) (dQ4) (dQ5) dh0 dh1 dh2 (fun _ => rfl) dh4 dh5 b0 d1 (fun _ => rfl) c7 (cnt_dec h0 (by show 3 < 13; decide) dhn)))
      refine allRdy_q rfl rfl (fun h0 h1 => ?_) ?_
      ·
       cases (show dB4 = false from h0)
       obtain rfl : dB2 = true := h1.1
       obtain rfl := dh2 rfl
       obtain rfl : dB3 = true := h1.2.1
       obtain rfl := dh3 rfl
       refine ops_step rfl rfl (idx_sl rfl rfl rfl rfl rfl g3 rfl f9) ?_
       exact ops_done (dwp_to [] (by cbv) rfl (ih dB0 dB1 true true true dB5 (dQ0) (dQ1) (.sl 1 a4) (.int .i64 n) (.rd [.str x3]) (dQ5) dh0 dh1 (fun _ => rfl) (fun _ => rfl) (fun _ => rfl) dh5 b0 (fun _ => rfl) (fun _ => rfl) (fun _ => rfl) (cnt_dec h0 (by show 4 < 13; decide) dhn)))
      refine allRdy_q rfl rfl (fun h0 h1 => ?_) ?_
      ·
       cases (show dB5 = false from h0)
       obtain rfl : dB4 = true := h1.1
       obtain rfl := dh4 rfl
       obtain rfl : dB2 = true := d1 rfl
       obtain rfl := dh2 rfl
       obtain rfl : dB3 = true := d0 rfl
       obtain rfl := dh3 rfl
       refine ra hA 1 (by cbv) ?_
       exact ops_done (dwp_to [] (by cbv) rfl (ih dB0 dB1 true true true true (dQ0) (dQ1) (.sl 1 a4) (.int .i64 n) (.rd [.str x3]) (.str x3) dh0 dh1 (fun _ => rfl) (fun _ => rfl) (fun _ => rfl) (fun _ => rfl) b0 (fun _ => rfl) (fun _ => rfl) (fun _ => rfl) (cnt_dec h0 (by show 5 < 13; decide) dhn)))
      refine allRdy_q rfl rfl (fun h0 h1 => ?_) ?_
      ·
       obtain rfl : dB1 = true := h1.1
       obtain rfl := dh1 rfl
       obtain rfl : dB0 = true := b0 rfl
       obtain rfl := dh0 rfl
       obtain rfl : dB5 = true := h1.2.1
       obtain rfl := dh5 rfl
       obtain rfl : dB4 = true := c7 rfl
       obtain rfl := dh4 rfl
       obtain rfl : dB2 = true := d1 rfl
       obtain rfl := dh2 rfl
       obtain rfl : dB3 = true := d0 rfl
       obtain rfl := dh3 rfl
       refine ops_callV rfl rfl (by cbv) (by cbv) hc5 (.inl (by simp only [fresh, freshL, e5, f0, f2, f1, d5, e1, frR_Mail, and_self])) (by cbv) ?_
       exact ops_done (dwp_to [.up 7003, .up 4029, .up 6, .up 4, .up 2] (by cbv) rfl (i6 dn false false false (.bad) (.bad) (.bad) (fun h => absurd h (by decide)) (fun h => absurd h (by decide)) (fun h => absurd h (by decide)) (fun h => absurd h (by decide)) (fun h => absurd h (by decide)) (cnt_dec h0 (by show 6 < 13; decide) dhn)))
      refine allRdy_q rfl rfl (fun _ h1 => absurd (show false = true from h1.1) (by decide)) ?_
      refine allRdy_q rfl rfl (fun _ h1 => absurd (show false = true from h1.1) (by decide)) ?_
      refine allRdy_q rfl rfl (fun _ h1 => absurd (show false = true from h1.1) (by decide)) ?_
      refine allRdy_none rfl ?_
      refine allRdy_q rfl rfl (fun _ h1 => absurd (show false = true from h1.2.1) (by decide)) ?_
      refine allRdy_q rfl rfl (fun _ h1 => absurd (show false = true from h1.1) (by decide)) ?_
      exact trivial
    have H_ : ∀ (dn : Nat) (dB0 : Bool) (dB1 : Bool) (dB2 : Bool) (dB3 : Bool) (dB4 : Bool) (dB5 : Bool) (dQ0 : PV) (dQ1 : PV) (dQ2 : PV) (dQ3 : PV) (dQ4 : PV) (dQ5 : PV), (dB0 = true → dQ0 = .pt 4 0 0) → (dB1 = true → dQ1 = .agg [.own 7003]) → (dB2 = true → dQ2 = .sl 1 a4) → (dB3 = true → dQ3 = .int .i64 n) → (dB4 = true → dQ4 = .rd [.str x3]) → (dB5 = true → dQ5 = .str x3) → (dB1 = true → dB0 = true) → (dB4 = true → dB2 = true) → (dB4 = true → dB3 = true) → (dB5 = true → dB4 = true) → cntF [dB0, dB1, dB2, dB3, dB4, dB5, false, false, false, false, false, false, false] = dn → dwp T ⟨Real Try.prog, RealM Try.prog, RealC Try.prog⟩ dR dK dn [dB0, dB1, dB2, dB3, dB4, dB5, false, false, false, false, false, false, false] ({ sl := [.sl 1 a4, .bad, .pt 2 0 0, .bad, .pt 4 0 0, .int .i64 n, .bad, .bad, .bad, .bad, .bad, .bad, .bad, .bad, .bad, .bad, .int .i64 n, .sl 1 a4, .int .i64 (A.rlen a4), .bool (A.cmp .lss n (A.rlen a4)), .bad, .bad, .bad, dQ0, dQ1, dQ2, dQ3, dQ4, dQ5, .bad, .bad, .bad, .bad, .bad, .bad, .bad, .bad, .bad, .bad, .bad, .bad, .bad, .bad, .bad, .bad, .bad, .bad, .bad, .bad, .bad, .bad, .bad, .bad, .bad, .bad], bl := [(2, ⟨.var, 3, [[.zc, .int .i64 0, .zc]]⟩), (4, ⟨.var, 3, [[.own 7003, .int .i64 nv, .zc]]⟩), (7003, ⟨.arr, 5, R⟩)] } : St) := by
     intro dn
     induction dn with
     | zero =>
      intro dB0 dB1 dB2 dB3 dB4 dB5 dQ0 dQ1 dQ2 dQ3 dQ4 dQ5 dh0 dh1 dh2 dh3 dh4 dh5 b0 d1 d0 c7 dhn
      exact absurd (show false = true from cntF_zero  _ dhn 6 (by show 6 < 13; decide)) (by decide)
     | succ dn ih =>
      intro dB0 dB1 dB2 dB3 dB4 dB5 dQ0 dQ1 dQ2 dQ3 dQ4 dQ5 dh0 dh1 dh2 dh3 dh4 dh5 b0 d1 d0 c7 dhn
      subst dhR
      refine dwp_next (is := [0, 1, 2, 3, 4, 5, 6, 7, 8, 9, 10, 11, 12]) rfl ?_
      refine allRdy_q rfl rfl (fun h0 h1 => ?_) ?_
      ·
       cases (show dB0 = false from h0)
       refine ra hA 1 (by cbv) ?_
       exact ops_done (dwp_to [] (by cbv) rfl (ih true dB1 dB2 dB3 dB4 dB5 (.pt 4 0 0) (dQ1) (dQ2) (dQ3) (dQ4) (dQ5) (fun _ => rfl) dh1 dh2 dh3 dh4 dh5 (fun _ => rfl) d1 d0 c7 (cnt_dec h0 (by show 0 < 13; decide) dhn)))
      refine allRdy_q rfl rfl (fun h0 h1 => ?_) ?_
      ·
       cases (show dB1 = false from h0)
       obtain rfl : dB0 = true := h1.1
       obtain rfl := dh0 rfl
       refine ra hA 1 (by cbv) ?_
       exact ops_done (dwp_to [] (by cbv) rfl (ih true true dB2 dB3 dB4 dB5 (.pt 4 0 0) (.agg [.own 7003]) (dQ2) (dQ3) (dQ4) (dQ5) (fun _ => rfl) (fun _ => rfl) dh2 dh3 dh4 dh5 (fun _ => rfl) d1 d0 c7 (cnt_dec h0 (by show 1 < 13; decide) dhn)))
      refine allRdy_q rfl rfl (fun h0 h1 => ?_) ?_
      ·
       cases (show dB2 = false from h0)
       refine ra hA 1 (by cbv) ?_
       exact ops_done (dwp_to [] (by cbv) rfl (ih dB0 dB1 true dB3 dB4 dB5 (dQ0) (dQ1) (.sl 1 a4) (dQ3) (dQ4) (dQ5) dh0 dh1 (fun _ => rfl) dh3 dh4 dh5 b0 (fun _ => rfl) d0 c7 (cnt_dec h0 (by show 2 < 13; decide) dhn)))
      refine allRdy_q rfl rfl (fun h0 h1 => ?_) ?_
      ·
       cases (show dB3 = false from h0)
       refine ra hA 1 (by cbv) ?_
       exact ops_done (dwp_to [] (by cbv) rfl (ih dB0 dB1 dB2 true dB4 dB5 (dQ0) (dQ1) (dQ2) (.int .i64 n) (dQ4) (dQ5) dh0 dh1 dh2 (fun _ => rfl) dh4 dh5 b0 d1 (fun _ => rfl) c7 (cnt_dec h0 (by show 3 < 13; decide) dhn)))
      refine allRdy_q rfl rfl (fun h0 h1 => ?_) ?_
      ·
       cases (show dB4 = false from h0)
       obtain rfl : dB2 = true := h1.1
       obtain rfl := dh2 rfl
       obtain rfl : dB3 = true := h1.2.1
       obtain rfl := dh3 rfl
       refine ops_step rfl rfl (idx_sl rfl rfl rfl rfl rfl g3 rfl f9) ?_
       exact ops_done (dwp_to [] (by cbv) rfl (ih dB0 dB1 true true true dB5 (dQ0) (dQ1) (.sl 1 a4) (.int .i64 n) (.rd [.str x3]) (dQ5) dh0 dh1 (fun _ => rfl) (fun _ => rfl) (fun _ => rfl) dh5 b0 (fun _ => rfl) (fun _ => rfl) (fun _ => rfl) (cnt_dec h0 (by show 4 < 13; decide) dhn)))
      refine allRdy_q rfl rfl (fun h0 h1 => ?_) ?_
      ·
       cases (show dB5 = false from h0)
       obtain rfl : dB4 = true := h1.1
       obtain rfl := dh4 rfl
       obtain rfl : dB2 = true := d1 rfl
       obtain rfl := dh2 rfl
       obtain rfl : dB3 = true := d0 rfl
       obtain rfl := dh3 rfl
       refine ra hA 1 (by cbv) ?_
       exact ops_done (dwp_to [] (by cbv) rfl (ih dB0 dB1 true true true true (dQ0) (dQ1) (.sl 1 a4) (.int .i64 n) (.rd [.str x3]) (.str x3) dh0 dh1 (fun _ => rfl) (fun _ => rfl) (fun _ => rfl) (fun _ => rfl) b0 (fun _ => rfl) (fun _ => rfl) (fun _ => rfl) (cnt_dec h0 (by show 5 < 13; decide) dhn)))
      refine allRdy_q rfl rfl (fun h0 h1 => ?_) ?_
      ·
       obtain rfl : dB1 = true := h1.1
       obtain rfl := dh1 rfl
       obtain rfl : dB0 = true := b0 rfl
       obtain rfl := dh0 rfl
       obtain rfl : dB5 = true := h1.2.1
       obtain rfl := dh5 rfl
       obtain rfl : dB4 = true := c7 rfl
       obtain rfl := dh4 rfl
       obtain rfl : dB2 = true := d1 rfl
       obtain rfl := dh2 rfl
       obtain rfl : dB3 = true := d0 rfl
       obtain rfl := dh3 rfl
       refine ops_callV rfl rfl (by cbv) (by cbv) hc5 (.inl (by simp only [fresh, freshL, e5, f0, f2, f1, d5, e1, frR_Mail, and_self])) (by cbv) ?_
       exact ops_done (dwp_to [.up 7003, .up 4029, .up 4, .up 2] (by cbv) rfl (H_6 dn false false false (.bad) (.bad) (.bad) (fun h => absurd h (by decide)) (fun h => absurd h (by decide)) (fun h => absurd h (by decide)) (fun h => absurd h (by decide)) (fun h => absurd h (by decide)) (cnt_dec h0 (by show 6 < 13; decide) dhn)))
      refine allRdy_q rfl rfl (fun _ h1 => absurd (show false = true from h1.1) (by decide)) ?_
      refine allRdy_q rfl rfl (fun _ h1 => absurd (show false = true from h1.1) (by decide)) ?_
      refine allRdy_q rfl rfl (fun _ h1 => absurd (show false = true from h1.1) (by decide)) ?_
      refine allRdy_q rfl rfl (fun h0 h1 => ?_) ?_
      ·
       refine ra hA 1 (by cbv) ?_
       exact ops_done (dwp_to [.up 7003, .up 6, .up 4, .up 2] (by cbv) rfl (j6 dn dB0 dB1 dB2 dB3 dB4 dB5 (dQ0) (dQ1) (dQ2) (dQ3) (dQ4) (dQ5) dh0 dh1 dh2 dh3 dh4 dh5 b0 d1 d0 c7 (cnt_dec h0 (by show 10 < 13; decide) dhn)))
      refine allRdy_q rfl rfl (fun _ h1 => absurd (show false = true from h1.1) (by decide)) ?_
      refine allRdy_q rfl rfl (fun _ h1 => absurd (show false = true from h1.1) (by decide)) ?_
      exact trivial
    exact dwp_to [] (by cbv) rfl (H_ 13 false false false false false false (.bad) (.bad) (.bad) (.bad) (.bad) (.bad) (fun h => absurd h (by decide)) (fun h => absurd h (by decide)) (fun h => absurd h (by decide)) (fun h => absurd h (by decide)) (fun h => absurd h (by decide)) (fun h => absurd h (by decide)) (fun h => absurd h (by decide)) (fun h => absurd h (by decide)) (fun h => absurd h (by decide)) (fun h => absurd h (by decide)) rfl)
   refine gs (gs (gr (ra hA 1 (by cbv) (od ?_))))
   refine go_cond rfl (fun c6 => ?_) (fun c6 => ?_)
   ·
    refine go_exit ⟨fun _ => ?_, fun h => absurd rfl h⟩
    refine gB (ra hA 3 (by cbv) ?_)
    refine ops_doneB (tw := []) (by cbv) ?_
    refine ⟨(S31_1 a4 (A.num .add .i64 n 1) 0 nv R), List.length xs - (i + 1), ?_, by cbv, i + 1, L, R, (A.num .add .i64 n 1), nv, rfl, ?_, rfl⟩
    ·
     omega
    ·
     have hh : hasB L x3 inboxT = true := by rw [show hasB L _ inboxT = _ from e1.symm]; assumption
     refine ⟨by rw [add_i64 hA (by omega) (by omega)]; omega, by omega, hR, by omega, by omega, hok, ?_⟩
     rw [hE, go_at d8, if_pos hh]
   ·
    refine gk (gs ?_)
    obtain ⟨b3, a6, a7, d3, f7, e9, hc8⟩ : ∃ (b3 : RR) (a6 : Int) (a7 : Int), b3 = List.map eoBox (modL L nv x3) ∧ a6 = (modN L nv x3) ∧ a7 = (modC L nv x3) ∧ Real Try.prog 72 [.agg [.sl 5 (eraseR R)], .int .i64 nv, .agg [.int .i64 1, .str x3, .str (ByteArray.mk #[105, 110, 98, 111, 120]), .str ByteArray.empty, .int .i64 0, .zc, .int .i64 0, .str ByteArray.empty]] (.tup [.agg [.ow 5 b3], .int .i64 a6, .int .i64 a7]) := ⟨_, _, _, rfl, rfl, rfl, by subst hR; simp only [erR_Box]; exact r_spec_ModelCall A hA (⟨L⟩ : GState) nv x3 (by assumption) (by assumption) (by assumption) (by assumption) (by assumption)⟩
    have i9 := rlen_map hA d3
    refine go_drawE [0, 1, 2, 3, 4, 5, 6, 7, 8, 9, 10, 11, 14, 16, 12, 13, 15, 17] (by cbv) rfl rfl ({ sl := [.sl 1 a4, .bad, .pt 2 0 0, .bad, .pt 4 0 0, .int .i64 n, .pt 6 0 0, .bool a5, .pt 8 0 0, .int .i64 a6, .int .i64 a7, .bad, .bad, .bad, .bad, .bad, .int .i64 n, .sl 1 a4, .int .i64 (A.rlen a4), .bool (A.cmp .lss n (A.rlen a4)), .bad, .bad, .tup [.agg [.int .i64 a0, .str a3, .str a1, .int .i64 a2, .own 4029], .bool a5], .pt 4 0 0, .agg [.own 7003], .sl 1 a4, .int .i64 n, .rd [.str x3], .str x3, .tup [.agg [.int .i64 a0, .str a3, .str a1, .int .i64 a2, .own 4029], .bool a5], .agg [.int .i64 a0, .str a3, .str a1, .int .i64 a2, .own 4029], .bool a5, .bool a5, .tup [.agg [.own 43], .int .i64 a6, .int .i64 a7], .pt 4 0 0, .agg [.own 7003], .pt 4 0 1, .int .i64 nv, .sl 1 a4, .int .i64 n, .rd [.str x3], .str x3, .agg [.int .i64 1, .str x3, .str (ByteArray.mk #[105, 110, 98, 111, 120]), .str ByteArray.empty, .int .i64 0, .zc, .int .i64 0, .str ByteArray.empty], .tup [.agg [.own 43], .int .i64 a6, .int .i64 a7], .agg [.own 43], .int .i64 a6, .int .i64 a7, .bad, .bad, .bad, .bad, .bad, .bad, .bad, .bad], bl := [(2, ⟨.var, 3, [[.zc, .int .i64 0, .zc]]⟩), (4, ⟨.var, 3, [[.own 7003, .int .i64 nv, .zc]]⟩), (6, ⟨.var, 5, [[.int .i64 a0, .str a3, .str a1, .int .i64 a2, .own 4029]]⟩), (8, ⟨.var, 1, [[.own 43]]⟩), (43, ⟨.arr, 5, b3⟩), (4029, ⟨.arr, 3, a9⟩), (7003, ⟨.arr, 5, R⟩)] } : St) (fun dR dK dhR dhF => ?_) ?_
    ·
     have i4 : ∀ (dn : Nat) (a8 : Bool) (b1 : Bool) (d9 : Bool) (d6 : Bool) (b4 : PV) (c0 : PV) (g2 : PV) (f6 : PV), (a8 = true → b4 = .int .i64 a6) → (b1 = true → c0 = .int .i64 a7) → (d9 = true → g2 = .int .i64 a6) → (d6 = true → f6 = .int .i64 a7) → (d9 = true → a8 = true) → (d6 = true → b1 = true) → (d6 = true → d9 = true) → (d6 = true → a8 = true) → cntF [true, true, true, true, true, true, true, true, true, true, true, true, a8, b1, true, true, d9, d6] = dn → dwp T ⟨Real Try.prog, RealM Try.prog, RealC Try.prog⟩ dR dK dn [true, true, true, true, true, true, true, true, true, true, true, true, a8, b1, true, true, d9, d6] ({ sl := [.sl 1 a4, .bad, .pt 2 0 0, .bad, .pt 4 0 0, .int .i64 n, .pt 6 0 0, .bool a5, .pt 8 0 0, g2, f6, .bad, .bad, .bad, .bad, .bad, .int .i64 n, .sl 1 a4, .int .i64 (A.rlen a4), .bool (A.cmp .lss n (A.rlen a4)), .bad, .bad, .tup [.agg [.int .i64 a0, .str a3, .str a1, .int .i64 a2, .own 4029], .bool a5], .pt 4 0 0, .agg [.own 7003], .sl 1 a4, .int .i64 n, .rd [.str x3], .str x3, .tup [.agg [.int .i64 a0, .str a3, .str a1, .int .i64 a2, .own 4029], .bool a5], .agg [.int .i64 a0, .str a3, .str a1, .int .i64 a2, .own 4029], .bool a5, .bool a5, .tup [.agg [.own 43], .int .i64 a6, .int .i64 a7], .pt 4 0 0, .agg [.own 7003], .pt 4 0 1, .int .i64 nv, .sl 1 a4, .int .i64 n, .rd [.str x3], .str x3, .agg [.int .i64 1, .str x3, .str (ByteArray.mk #[105, 110, 98, 111, 120]), .str ByteArray.empty, .int .i64 0, .zc, .int .i64 0, .str ByteArray.empty], .tup [.agg [.own 43], .int .i64 a6, .int .i64 a7], .agg [.own 43], b4, c0, .bad, .bad, .bad, .bad, .bad, .bad, .bad, .bad], bl := [(2, ⟨.var, 3, [[.zc, .int .i64 0, .zc]]⟩), (4, ⟨.var, 3, [[.own 7003, .int .i64 nv, .zc]]⟩), (6, ⟨.var, 5, [[.int .i64 a0, .str a3, .str a1, .int .i64 a2, .own 4029]]⟩), (8, ⟨.var, 1, [[.own 43]]⟩), (43, ⟨.arr, 5, b3⟩), (4029, ⟨.arr, 3, a9⟩), (7003, ⟨.arr, 5, R⟩)] } : St) := by
      intro dn
      induction dn with
      | zero =>
       intro a8 b1 d9 d6 b4 c0 g2 f6 c4 d2 g6 i0 g0 f8 g1 i1 dhn
       have y12 : a8 = true := cntF_zero  _ dhn 12 (by show 12 < 18; decide)
       subst y12
       have y12 := c4 rfl
       subst y12
       have y13 : b1 = true := cntF_zero  _ dhn 13 (by show 13 < 18; decide)
       subst y13
       have y13 := d2 rfl
       subst y13
       have y16 : d9 = true := cntF_zero  _ dhn 16 (by show 16 < 18; decide)
       subst y16
       have y16 := g6 rfl
       subst y16
       have y17 : d6 = true := cntF_zero  _ dhn 17 (by show 17 < 18; decide)
       subst y17
       have y17 := i0 rfl
       subst y17
       exact dwp_last dhF
      | succ dn ih =>
       intro a8 b1 d9 d6 b4 c0 g2 f6 c4 d2 g6 i0 g0 f8 g1 i1 dhn
       subst dhR
       refine dwp_next (is := [0, 1, 2, 3, 4, 5, 6, 7, 8, 9, 10, 11, 12, 13, 14, 15, 16, 17]) rfl ?_
       refine allRdy_none rfl ?_
       refine allRdy_none rfl ?_
       refine allRdy_none rfl ?_
       refine allRdy_none rfl ?_
       refine allRdy_none rfl ?_
       refine allRdy_none rfl ?_
       refine allRdy_none rfl ?_
       refine allRdy_none rfl ?_
       refine allRdy_none rfl ?_
       refine allRdy_none rfl ?_
       refine allRdy_none rfl ?_
       refine allRdy_none rfl ?_
       refine allRdy_q rfl rfl (fun h0 h1 => ?_) ?_
       ·
        cases (show a8 = false from h0)
        refine ra hA 1 (by cbv) ?_
        exact ops_done (dwp_to [] (by cbv) rfl (ih true b1 d9 d6 (.int .i64 a6) (c0) (g2) (f6) (fun _ => rfl) d2 g6 i0 (fun _ => rfl) f8 g1 (fun _ => rfl) (cnt_dec h0 (by show 12 < 18; decide) dhn)))
       refine allRdy_q rfl rfl (fun h0 h1 => ?_) ?_
       ·
        cases (show b1 = false from h0)
        refine ra hA 1 (by cbv) ?_
        exact ops_done (dwp_to [] (by cbv) rfl (ih a8 true d9 d6 (b4) (.int .i64 a7) (g2) (f6) c4 (fun _ => rfl) g6 i0 g0 (fun _ => rfl) g1 i1 (cnt_dec h0 (by show 13 < 18; decide) dhn)))
       refine allRdy_none rfl ?_
       refine allRdy_none rfl ?_
       refine allRdy_q rfl rfl (fun h0 h1 => ?_) ?_
       ·
        cases (show d9 = false from h0)
        obtain rfl : a8 = true := h1.1
        obtain rfl := c4 rfl
        refine ra hA 1 (by cbv) ?_
        exact ops_done (dwp_to [] (by cbv) rfl (ih true b1 true d6 (.int .i64 a6) (c0) (.int .i64 a6) (f6) (fun _ => rfl) d2 (fun _ => rfl) i0 (fun _ => rfl) f8 (fun _ => rfl) (fun _ => rfl) (cnt_dec h0 (by show 16 < 18; decide) dhn)))
       refine allRdy_q rfl rfl (fun h0 h1 => ?_) ?_
       ·
        cases (show d6 = false from h0)
        obtain rfl : b1 = true := h1.1
        obtain rfl := d2 rfl
        obtain rfl : d9 = true := h1.2.1
        obtain rfl := g6 rfl
        obtain rfl : a8 = true := g0 rfl
        obtain rfl := c4 rfl
        refine ra hA 1 (by cbv) ?_
        exact ops_done (dwp_to [] (by cbv) rfl (ih true true true true (.int .i64 a6) (.int .i64 a7) (.int .i64 a6) (.int .i64 a7) (fun _ => rfl) (fun _ => rfl) (fun _ => rfl) (fun _ => rfl) (fun _ => rfl) (fun _ => rfl) (fun _ => rfl) (fun _ => rfl) (cnt_dec h0 (by show 17 < 18; decide) dhn)))
       exact trivial
     have i3 : ∀ (dn : Nat) (b5 : Bool) (c3 : Bool) (a8 : Bool) (b1 : Bool) (e4 : PV) (d4 : PV) (b4 : PV) (c0 : PV), (b5 = true → e4 = .tup [.agg [.own 43], .int .i64 a6, .int .i64 a7]) → (c3 = true → d4 = .agg [.own 43]) → (a8 = true → b4 = .int .i64 a6) → (b1 = true → c0 = .int .i64 a7) → (c3 = true → b5 = true) → (a8 = true → b5 = true) → (b1 = true → b5 = true) → cntF [true, true, true, true, true, true, true, true, true, true, b5, c3, a8, b1, true, false, false, false] = dn → dwp T ⟨Real Try.prog, RealM Try.prog, RealC Try.prog⟩ dR dK dn [true, true, true, true, true, true, true, true, true, true, b5, c3, a8, b1, true, false, false, false] ({ sl := [.sl 1 a4, .bad, .pt 2 0 0, .bad, .pt 4 0 0, .int .i64 n, .pt 6 0 0, .bool a5, .pt 8 0 0, .bad, .bad, .bad, .bad, .bad, .bad, .bad, .int .i64 n, .sl 1 a4, .int .i64 (A.rlen a4), .bool (A.cmp .lss n (A.rlen a4)), .bad, .bad, .tup [.agg [.int .i64 a0, .str a3, .str a1, .int .i64 a2, .own 4029], .bool a5], .pt 4 0 0, .agg [.own 7003], .sl 1 a4, .int .i64 n, .rd [.str x3], .str x3, .tup [.agg [.int .i64 a0, .str a3, .str a1, .int .i64 a2, .own 4029], .bool a5], .agg [.int .i64 a0, .str a3, .str a1, .int .i64 a2, .own 4029], .bool a5, .bool a5, e4, .pt 4 0 0, .agg [.own 7003], .pt 4 0 1, .int .i64 nv, .sl 1 a4, .int .i64 n, .rd [.str x3], .str x3, .agg [.int .i64 1, .str x3, .str (ByteArray.mk #[105, 110, 98, 111, 120]), .str ByteArray.empty, .int .i64 0, .zc, .int .i64 0, .str ByteArray.empty], .tup [.agg [.own 43], .int .i64 a6, .int .i64 a7], d4, b4, c0, .bad, .bad, .bad, .bad, .bad, .bad, .bad, .bad], bl := [(2, ⟨.var, 3, [[.zc, .int .i64 0, .zc]]⟩), (4, ⟨.var, 3, [[.own 7003, .int .i64 nv, .zc]]⟩), (6, ⟨.var, 5, [[.int .i64 a0, .str a3, .str a1, .int .i64 a2, .own 4029]]⟩), (8, ⟨.var, 1, [[.zc]]⟩), (43, ⟨.arr, 5, b3⟩), (4029, ⟨.arr, 3, a9⟩), (7003, ⟨.arr, 5, R⟩)] } : St) := by
      intro dn
      induction dn with
      | zero =>
       intro b5 c3 a8 b1 e4 d4 b4 c0 e3 e2 c4 d2 e7 f3 f4 dhn
       exact absurd (show false = true from cntF_zero  _ dhn 15 (by show 15 < 18; decide)) (by decide)
      | succ dn ih =>
       intro b5 c3 a8 b1 e4 d4 b4 c0 e3 e2 c4 d2 e7 f3 f4 dhn
       subst dhR
       refine dwp_next (is := [0, 1, 2, 3, 4, 5, 6, 7, 8, 9, 10, 11, 12, 13, 14, 15, 16, 17]) rfl ?_
       refine allRdy_none rfl ?_
       refine allRdy_none rfl ?_
       refine allRdy_none rfl ?_
       refine allRdy_none rfl ?_
       refine allRdy_none rfl ?_
       refine allRdy_none rfl ?_
       refine allRdy_none rfl ?_
       refine allRdy_none rfl ?_
       refine allRdy_none rfl ?_
       refine allRdy_none rfl ?_
       refine allRdy_q rfl rfl (fun h0 h1 => ?_) ?_
       ·
        cases (show b5 = false from h0)
        refine ra hA 1 (by cbv) ?_
        exact ops_done (dwp_to [] (by cbv) rfl (ih true c3 a8 b1 (.tup [.agg [.own 43], .int .i64 a6, .int .i64 a7]) (d4) (b4) (c0) (fun _ => rfl) e2 c4 d2 (fun _ => rfl) (fun _ => rfl) (fun _ => rfl) (cnt_dec h0 (by show 10 < 18; decide) dhn)))
       refine allRdy_q rfl rfl (fun h0 h1 => ?_) ?_
       ·
        cases (show c3 = false from h0)
        obtain rfl : b5 = true := h1.1
        obtain rfl := e3 rfl
        refine ra hA 1 (by cbv) ?_
        exact ops_done (dwp_to [] (by cbv) rfl (ih true true a8 b1 (.tup [.agg [.own 43], .int .i64 a6, .int .i64 a7]) (.agg [.own 43]) (b4) (c0) (fun _ => rfl) (fun _ => rfl) c4 d2 (fun _ => rfl) (fun _ => rfl) (fun _ => rfl) (cnt_dec h0 (by show 11 < 18; decide) dhn)))
       refine allRdy_q rfl rfl (fun h0 h1 => ?_) ?_
       ·
        cases (show a8 = false from h0)
        obtain rfl : b5 = true := h1.1
        obtain rfl := e3 rfl
        refine ra hA 1 (by cbv) ?_
        exact ops_done (dwp_to [] (by cbv) rfl (ih true c3 true b1 (.tup [.agg [.own 43], .int .i64 a6, .int .i64 a7]) (d4) (.int .i64 a6) (c0) (fun _ => rfl) e2 (fun _ => rfl) d2 (fun _ => rfl) (fun _ => rfl) (fun _ => rfl) (cnt_dec h0 (by show 12 < 18; decide) dhn)))
       refine allRdy_q rfl rfl (fun h0 h1 => ?_) ?_
       ·
        cases (show b1 = false from h0)
        obtain rfl : b5 = true := h1.1
        obtain rfl := e3 rfl
        refine ra hA 1 (by cbv) ?_
        exact ops_done (dwp_to [] (by cbv) rfl (ih true c3 a8 true (.tup [.agg [.own 43], .int .i64 a6, .int .i64 a7]) (d4) (b4) (.int .i64 a7) (fun _ => rfl) e2 c4 (fun _ => rfl) (fun _ => rfl) (fun _ => rfl) (fun _ => rfl) (cnt_dec h0 (by show 13 < 18; decide) dhn)))
       refine allRdy_none rfl ?_
       refine allRdy_q rfl rfl (fun h0 h1 => ?_) ?_
       ·
        obtain rfl : c3 = true := h1.2.1
        obtain rfl := e2 rfl
        obtain rfl : b5 = true := e7 rfl
        obtain rfl := e3 rfl
        refine ra hA 1 (by cbv) ?_
        exact ops_done (dwp_to [] (by cbv) rfl (i4 dn a8 b1 false false (b4) (c0) (.bad) (.bad) c4 d2 (fun h => absurd h (by decide)) (fun h => absurd h (by decide)) (fun h => absurd h (by decide)) (fun h => absurd h (by decide)) (fun h => absurd h (by decide)) (fun h => absurd h (by decide)) (cnt_dec h0 (by show 15 < 18; decide) dhn)))
       refine allRdy_q rfl rfl (fun _ h1 => absurd (show false = true from h1.2.1) (by decide)) ?_
       refine allRdy_q rfl rfl (fun _ h1 => absurd (show false = true from h1.2.1) (by decide)) ?_
       exact trivial
     have H_9 : ∀ (dn : Nat) (b5 : Bool) (c3 : Bool) (a8 : Bool) (b1 : Bool) (e4 : PV) (d4 : PV) (b4 : PV) (c0 : PV), (b5 = true → e4 = .tup [.agg [.own 43], .int .i64 a6, .int .i64 a7]) → (c3 = true → d4 = .agg [.own 43]) → (a8 = true → b4 = .int .i64 a6) → (b1 = true → c0 = .int .i64 a7) → (c3 = true → b5 = true) → (a8 = true → b5 = true) → (b1 = true → b5 = true) → cntF [true, true, true, true, true, true, true, true, true, true, b5, c3, a8, b1, false, false, false, false] = dn → dwp T ⟨Real Try.prog, RealM Try.prog, RealC Try.prog⟩ dR dK dn [true, true, true, true, true, true, true, true, true, true, b5, c3, a8, b1, false, false, false, false] ({ sl := [.sl 1 a4, .bad, .pt 2 0 0, .bad, .pt 4 0 0, .int .i64 n, .pt 6 0 0, .bool a5, .bad, .bad, .bad, .bad, .bad, .bad, .bad, .bad, .int .i64 n, .sl 1 a4, .int .i64 (A.rlen a4), .bool (A.cmp .lss n (A.rlen a4)), .bad, .bad, .tup [.agg [.int .i64 a0, .str a3, .str a1, .int .i64 a2, .own 4029], .bool a5], .pt 4 0 0, .agg [.own 7003], .sl 1 a4, .int .i64 n, .rd [.str x3], .str x3, .tup [.agg [.int .i64 a0, .str a3, .str a1, .int .i64 a2, .own 4029], .bool a5], .agg [.int .i64 a0, .str a3, .str a1, .int .i64 a2, .own 4029], .bool a5, .bool a5, e4, .pt 4 0 0, .agg [.own 7003], .pt 4 0 1, .int .i64 nv, .sl 1 a4, .int .i64 n, .rd [.str x3], .str x3, .agg [.int .i64 1, .str x3, .str (ByteArray.mk #[105, 110, 98, 111, 120]), .str ByteArray.empty, .int .i64 0, .zc, .int .i64 0, .str ByteArray.empty], .tup [.agg [.own 43], .int .i64 a6, .int .i64 a7], d4, b4, c0, .bad, .bad, .bad, .bad, .bad, .bad, .bad, .bad], bl := [(2, ⟨.var, 3, [[.zc, .int .i64 0, .zc]]⟩), (4, ⟨.var, 3, [[.own 7003, .int .i64 nv, .zc]]⟩), (6, ⟨.var, 5, [[.int .i64 a0, .str a3, .str a1, .int .i64 a2, .own 4029]]⟩), (43, ⟨.arr, 5, b3⟩), (4029, ⟨.arr, 3, a9⟩), (7003, ⟨.arr, 5, R⟩)] } : St) := by
      intro dn
      induction dn with
      | zero =>
       intro b5 c3 a8 b1 e4 d4 b4 c0 e3 e2 c4 d2 e7 f3 f4 dhn
       exact absurd (show false = true from cntF_zero  _ dhn 14 (by show 14 < 18; decide)) (by decide)
      | succ dn ih =>
       intro b5 c3 a8 b1 e4 d4 b4 c0 e3 e2 c4 d2 e7 f3 f4 dhn
       subst dhR
       refine dwp_next (is := [0, 1, 2, 3, 4, 5, 6, 7, 8, 9, 10, 11, 12, 13, 14, 15, 16, 17]) rfl ?_
       refine allRdy_none rfl ?_
       refine allRdy_none rfl ?_
       refine allRdy_none rfl ?_
       refine allRdy_none rfl ?_
       refine allRdy_none rfl ?_
       refine allRdy_none rfl ?_
       refine allRdy_none rfl ?_
       refine allRdy_none rfl ?_
       refine allRdy_none rfl ?_
       refine allRdy_none rfl ?_
       refine allRdy_q rfl rfl (fun h0 h1 => ?_) ?_
       ·
        cases (show b5 = false from h0)
        refine ra hA 1 (by cbv) ?_
        exact ops_done (dwp_to [] (by cbv) rfl (ih true c3 a8 b1 (.tup [.agg [.own 43], .int .i64 a6, .int .i64 a7]) (d4) (b4) (c0) (fun _ => rfl) e2 c4 d2 (fun _ => rfl) (fun _ => rfl) (fun _ => rfl) (cnt_dec h0 (by show 10 < 18; decide) dhn)))
       refine allRdy_q rfl rfl (fun h0 h1 => ?_) ?_
       ·
        cases (show c3 = false from h0)
        obtain rfl : b5 = true := h1.1
        obtain rfl := e3 rfl
        refine ra hA 1 (by cbv) ?_
        exact ops_done (dwp_to [] (by cbv) rfl (ih true true a8 b1 (.tup [.agg [.own 43], .int .i64 a6, .int .i64 a7]) (.agg [.own 43]) (b4) (c0) (fun _ => rfl) (fun _ => rfl) c4 d2 (fun _ => rfl) (fun _ => rfl) (fun _ => rfl) (cnt_dec h0 (by show 11 < 18; decide) dhn)))
       refine allRdy_q rfl rfl (fun h0 h1 => ?_) ?_
       ·
        cases (show a8 = false from h0)
        obtain rfl : b5 = true := h1.1
        obtain rfl := e3 rfl
        refine ra hA 1 (by cbv) ?_
        exact ops_done (dwp_to [] (by cbv) rfl (ih true c3 true b1 (.tup [.agg [.own 43], .int .i64 a6, .int .i64 a7]) (d4) (.int .i64 a6) (c0) (fun _ => rfl) e2 (fun _ => rfl) d2 (fun _ => rfl) (fun _ => rfl) (fun _ => rfl) (cnt_dec h0 (by show 12 < 18; decide) dhn)))
       refine allRdy_q rfl rfl (fun h0 h1 => ?_) ?_
       ·
        cases (show b1 = false from h0)
        obtain rfl : b5 = true := h1.1
        obtain rfl := e3 rfl
        refine ra hA 1 (by cbv) ?_
        exact ops_done (dwp_to [] (by cbv) rfl (ih true c3 a8 true (.tup [.agg [.own 43], .int .i64 a6, .int .i64 a7]) (d4) (b4) (.int .i64 a7) (fun _ => rfl) e2 c4 (fun _ => rfl) (fun _ => rfl) (fun _ => rfl) (fun _ => rfl) (cnt_dec h0 (by show 13 < 18; decide) dhn)))
       refine allRdy_q rfl rfl (fun h0 h1 => ?_) ?_
       ·
        refine ra hA 1 (by cbv) ?_
        exact ops_done (dwp_to [.up 7003, .up 4029, .up 43, .up 8, .up 6, .up 4, .up 2] (by cbv) rfl (i3 dn b5 c3 a8 b1 (e4) (d4) (b4) (c0) e3 e2 c4 d2 e7 f3 f4 (cnt_dec h0 (by show 14 < 18; decide) dhn)))
       refine allRdy_q rfl rfl (fun _ h1 => absurd (show false = true from h1.1) (by decide)) ?_
       refine allRdy_q rfl rfl (fun _ h1 => absurd (show false = true from h1.2.1) (by decide)) ?_
       refine allRdy_q rfl rfl (fun _ h1 => absurd (show false = true from h1.2.1) (by decide)) ?_
       exact trivial
     have j9 : ∀ (dn : Nat) (dB0 : Bool) (dB1 : Bool) (dB2 : Bool) (dB3 : Bool) (dB4 : Bool) (dB5 : Bool) (dB6 : Bool) (dB7 : Bool) (dB8 : Bool) (dQ0 : PV) (dQ1 : PV) (dQ2 : PV) (dQ3 : PV) (dQ4 : PV) (dQ5 : PV) (dQ6 : PV) (dQ7 : PV) (dQ8 : PV), (dB0 = true → dQ0 = .pt 4 0 0) → (dB1 = true → dQ1 = .agg [.own 7003]) → (dB2 = true → dQ2 = .pt 4 0 1) → (dB3 = true → dQ3 = .int .i64 nv) → (dB4 = true → dQ4 = .sl 1 a4) → (dB5 = true → dQ5 = .int .i64 n) → (dB6 = true → dQ6 = .rd [.str x3]) → (dB7 = true → dQ7 = .str x3) → (dB8 = true → dQ8 = .agg [.int .i64 1, .str x3, .str (ByteArray.mk #[105, 110, 98, 111, 120]), .str ByteArray.empty, .int .i64 0, .zc, .int .i64 0, .str ByteArray.empty]) → (dB1 = true → dB0 = true) → (dB3 = true → dB2 = true) → (dB6 = true → dB4 = true) → (dB6 = true → dB5 = true) → (dB7 = true → dB6 = true) → (dB8 = true → dB7 = true) → cntF [dB0, dB1, dB2, dB3, dB4, dB5, dB6, dB7, dB8, false, false, false, false, false, true, false, false, false] = dn → dwp T ⟨Real Try.prog, RealM Try.prog, RealC Try.prog⟩ dR dK dn [dB0, dB1, dB2, dB3, dB4, dB5, dB6, dB7, dB8, false, false, false, false, false, true, false, false, false] ({ sl := [.sl 1 a4, .bad, .pt 2 0 0, .bad, .pt 4 0 0, .int .i64 n, .pt 6 0 0, .bool a5, .pt 8 0 0, .bad, .bad, .bad, .bad, .bad, .bad, .bad, .int .i64 n, .sl 1 a4, .int .i64 (A.rlen a4), .bool (A.cmp .lss n (A.rlen a4)), .bad, .bad, .tup [.agg [.int .i64 a0, .str a3, .str a1, .int .i64 a2, .own 4029], .bool a5], .pt 4 0 0, .agg [.own 7003], .sl 1 a4, .int .i64 n, .rd [.str x3], .str x3, .tup [.agg [.int .i64 a0, .str a3, .str a1, .int .i64 a2, .own 4029], .bool a5], .agg [.int .i64 a0, .str a3, .str a1, .int .i64 a2, .own 4029], .bool a5, .bool a5, .bad, dQ0, dQ1, dQ2, dQ3, dQ4, dQ5, dQ6, dQ7, dQ8, .bad, .bad, .bad, .bad, .bad, .bad, .bad, .bad, .bad, .bad, .bad, .bad], bl := [(2, ⟨.var, 3, [[.zc, .int .i64 0, .zc]]⟩), (4, ⟨.var, 3, [[.own 7003, .int .i64 nv, .zc]]⟩), (6, ⟨.var, 5, [[.int .i64 a0, .str a3, .str a1, .int .i64 a2, .own 4029]]⟩), (8, ⟨.var, 1, [[.zc]]⟩), (4029, ⟨.arr, 3, a9⟩), (7003, ⟨.arr, 5, R⟩)] } : St) := by
      intro dn
      induction dn with
      | zero =>
       intro dB0 dB1 dB2 dB3 dB4 dB5 dB6 dB7 dB8 dQ0 dQ1 dQ2 dQ3 dQ4 dQ5 dQ6 dQ7 dQ8 dh0 dh1 dh2 dh3 dh4 dh5 dh6 dh7 dh8 b0 b6 b9 b8 b7 b2 dhn
       exact absurd (show false = true from cntF_zero  _ dhn 9 (by show 9 < 18; decide)) (by decide)
      | succ dn ih =>
       intro dB0 dB1 dB2 dB3 dB4 dB5 dB6 dB7 dB8 dQ0 dQ1 dQ2 dQ3 dQ4 dQ5 dQ6 dQ7 dQ8 dh0 dh1 dh2 dh3 dh4 dh5 dh6 dh7 dh8 b0 b6 b9 b8 b7 b2 dhn
       subst dhR
       refine dwp_next (is := [0, 1, 2, 3, 4, 5, 6, 7, 8, 9, 10, 11, 12, 13, 14, 15, 16, 17]) rfl ?_
       refine allRdy_q rfl rfl (fun h0 h1 => ?_) ?_
       ·
        cases (show dB0 = false from h0)
        refine ra hA 1 (by cbv) ?_
        exact ops_done (dwp_to [] (by cbv) rfl (ih true dB1 dB2 dB3 dB4 dB5 dB6 dB7 dB8 (.pt 4 0 0) (dQ1) (dQ2) (dQ3) (dQ4) (dQ5) (dQ6) (dQ7) (dQ8) (fun _ => rfl) dh1 dh2 dh3 dh4 dh5 dh6 dh7 dh8 (fun _ => rfl) b6 b9 b8 b7 b2 (cnt_dec h0 (by show 0 < 18; decide) dhn)))
       refine allRdy_q rfl rfl (fun h0 h1 => ?_) ?_
       ·
        cases (show dB1 = false from h0)
        obtain rfl : dB0 = true := h1.1
        obtain rfl := dh0 rfl
        refine ra hA 1 (by cbv) ?_
        exact ops_done (dwp_to [] (by cbv) rfl (ih true true dB2 dB3 dB4 dB5 dB6 dB7 dB8 (.pt 4 0 0) (.agg [.own 7003]) (dQ2) (dQ3) (dQ4) (dQ5) (dQ6) (dQ7) (dQ8) (fun _ => rfl) (fun _ => rfl) dh2 dh3 dh4 dh5 dh6 dh7 dh8 (fun _ => rfl) b6 b9 b8 b7 b2 (cnt_dec h0 (by show 1 < 18; decide) dhn)))
       refine allRdy_q rfl rfl (fun h0 h1 => ?_) ?_
       ·
        cases (show dB2 = false from h0)
        refine ra hA 1 (by cbv) ?_
        exact ops_done (dwp_to [] (by cbv) rfl (ih dB0 dB1 true dB3 dB4 dB5 dB6 dB7 dB8 (dQ0) (dQ1) (.pt 4 0 1) (dQ3) (dQ4) (dQ5) (dQ6) (dQ7) (dQ8) dh0 dh1 (fun _ => rfl) dh3 dh4 dh5 dh6 dh7 dh8 b0 (fun _ => rfl) b9 b8 b7 b2 (cnt_dec h0 (by show 2 < 18; decide) dhn)))
       refine allRdy_q rfl rfl (fun h0 h1 => ?_) ?_
       ·
        cases (show dB3 = false from h0)
        obtain rfl : dB2 = true := h1.1
        obtain rfl := dh2 rfl
        refine ra hA 1 (by cbv) ?_
        exact ops_done (dwp_to [] (by cbv) rfl (ih dB0 dB1 true true dB4 dB5 dB6 dB7 dB8 (dQ0) (dQ1) (.pt 4 0 1) (.int .i64 nv) (dQ4) (dQ5) (dQ6) (dQ7) (dQ8) dh0 dh1 (fun _ => rfl) (fun _ => rfl) dh4 dh5 dh6 dh7 dh8 b0 (fun _ => rfl) b9 b8 b7 b2 (cnt_dec h0 (by show 3 < 18; decide) dhn)))
       refine allRdy_q rfl rfl (fun h0 h1 => ?_) ?_
       ·
        cases (show dB4 = false from h0)
        refine ra hA 1 (by cbv) ?_
        exact ops_done (dwp_to [] (by cbv) rfl (ih dB0 dB1 dB2 dB3 true dB5 dB6 dB7 dB8 (dQ0) (dQ1) (dQ2) (dQ3) (.sl 1 a4) (dQ5) (dQ6) (dQ7) (dQ8) dh0 dh1 dh2 dh3 (fun _ => rfl) dh5 dh6 dh7 dh8 b0 b6 (fun _ => rfl) b8 b7 b2 (cnt_dec h0 (by show 4 < 18; decide) dhn)))
       refine allRdy_q rfl rfl (fun h0 h1 => ?_) ?_
       ·
        cases (show dB5 = false from h0)
        refine ra hA 1 (by cbv) ?_
        exact ops_done (dwp_to [] (by cbv) rfl (ih dB0 dB1 dB2 dB3 dB4 true dB6 dB7 dB8 (dQ0) (dQ1) (dQ2) (dQ3) (dQ4) (.int .i64 n) (dQ6) (dQ7) (dQ8) dh0 dh1 dh2 dh3 dh4 (fun _ => rfl) dh6 dh7 dh8 b0 b6 b9 (fun _ => rfl) b7 b2 (cnt_dec h0 (by show 5 < 18; decide) dhn)))
       refine allRdy_q rfl rfl (fun h0 h1 => ?_) ?_
       ·
        cases (show dB6 = false from h0)
        obtain rfl : dB4 = true := h1.1
        obtain rfl := dh4 rfl
        obtain rfl : dB5 = true := h1.2.1
        obtain rfl := dh5 rfl
        refine ops_step rfl rfl (idx_sl rfl rfl rfl rfl rfl g3 rfl f9) ?_
        exact ops_done (dwp_to [] (by cbv) rfl (ih dB0 dB1 dB2 dB3 true true true dB7 dB8 (dQ0) (dQ1) (dQ2) (dQ3) (.sl 1 a4) (.int .i64 n) (.rd [.str x3]) (dQ7) (dQ8) dh0 dh1 dh2 dh3 (fun _ => rfl) (fun _ => rfl) (fun _ => rfl) dh7 dh8 b0 b6 (fun _ => rfl) (fun _ => rfl) (fun _ => rfl) b2 (cnt_dec h0 (by show 6 < 18; decide) dhn)))
       refine allRdy_q rfl rfl (fun h0 h1 => ?_) ?_
       ·
        cases (show dB7 = false from h0)
        obtain rfl : dB6 = true := h1.1
        obtain rfl := dh6 rfl
        obtain rfl : dB4 = true := b9 rfl
        obtain rfl := dh4 rfl
        obtain rfl : dB5 = true := b8 rfl
        obtain rfl := dh5 rfl
        refine ra hA 1 (by cbv) ?_
        exact ops_done (dwp_to [] (by cbv) rfl (ih dB0 dB1 dB2 dB3 true true true true dB8 (dQ0) (dQ1) (dQ2) (dQ3) (.sl 1 a4) (.int .i64 n) (.rd [.str x3]) (.str x3) (dQ8) dh0 dh1 dh2 dh3 (fun _ => rfl) (fun _ => rfl) (fun _ => rfl) (fun _ => rfl) dh8 b0 b6 (fun _ => rfl) (fun _ => rfl) (fun _ => rfl) (fun _ => rfl) (cnt_dec h0 (by show 7 < 18; decide) dhn)))
       refine allRdy_q rfl rfl (fun h0 h1 => ?_) ?_
       ·
        cases (show dB8 = false from h0)
        obtain rfl : dB7 = true := h1.1
        obtain rfl := dh7 rfl
        obtain rfl : dB6 = true := b7 rfl
        obtain rfl := dh6 rfl
        obtain rfl : dB4 = true := b9 rfl
        obtain rfl := dh4 rfl
        obtain rfl : dB5 = true := b8 rfl
        obtain rfl := dh5 rfl
        refine ra hA 1 (by cbv) ?_
        exact ops_done (dwp_to [] (by cbv) rfl (ih dB0 dB1 dB2 dB3 true true true true true (dQ0) (dQ1) (dQ2) (dQ3) (.sl 1 a4) (.int .i64 n) (.rd [.str x3]) (.str x3) (.agg [.int .i64 1, .str x3, .str (ByteArray.mk #[105, 110, 98, 111, 120]), .str ByteArray.empty, .int .i64 0, .zc, .int .i64 0, .str ByteArray.empty]) dh0 dh1 dh2 dh3 (fun _ => rfl) (fun _ => rfl) (fun _ => rfl) (fun _ => rfl) (fun _ => rfl) b0 b6 (fun _ => rfl) (fun _ => rfl) (fun _ => rfl) (fun _ => rfl) (cnt_dec h0 (by show 8 < 18; decide) dhn)))
       refine allRdy_q rfl rfl (fun h0 h1 => ?_) ?_
       ·
        obtain rfl : dB1 = true := h1.1
        obtain rfl := dh1 rfl
        obtain rfl : dB0 = true := b0 rfl
        obtain rfl := dh0 rfl
        obtain rfl : dB3 = true := h1.2.1
        obtain rfl := dh3 rfl
        obtain rfl : dB2 = true := b6 rfl
        obtain rfl := dh2 rfl
        obtain rfl : dB8 = true := h1.2.2.1
        obtain rfl := dh8 rfl
        obtain rfl : dB7 = true := b2 rfl
        obtain rfl := dh7 rfl
        obtain rfl : dB6 = true := b7 rfl
        obtain rfl := dh6 rfl
        obtain rfl : dB4 = true := b9 rfl
        obtain rfl := dh4 rfl
        obtain rfl : dB5 = true := b8 rfl
        obtain rfl := dh5 rfl
        refine ops_callV rfl rfl (by cbv) (by cbv) hc8 (.inl (by simp only [fresh, freshL, d3, f7, e9, frR_Box, and_self])) (by cbv) ?_
        exact ops_done (dwp_to [.up 7003, .up 4029, .up 43, .up 8, .up 6, .up 4, .up 2] (by cbv) rfl (i3 dn false false false false (.bad) (.bad) (.bad) (.bad) (fun h => absurd h (by decide)) (fun h => absurd h (by decide)) (fun h => absurd h (by decide)) (fun h => absurd h (by decide)) (fun h => absurd h (by decide)) (fun h => absurd h (by decide)) (fun h => absurd h (by decide)) (cnt_dec h0 (by show 9 < 18; decide) dhn)))
       refine allRdy_q rfl rfl (fun _ h1 => absurd (show false = true from h1.1) (by decide)) ?_
       refine allRdy_q rfl rfl (fun _ h1 => absurd (show false = true from h1.1) (by decide)) ?_
       refine allRdy_q rfl rfl (fun _ h1 => absurd (show false = true from h1.1) (by decide)) ?_
       refine allRdy_q rfl rfl (fun _ h1 => absurd (show false = true from h1.1) (by decide)) ?_
       refine allRdy_none rfl ?_
       refine allRdy_q rfl rfl (fun _ h1 => absurd (show false = true from h1.2.1) (by decide)) ?_
       refine allRdy_q rfl rfl (fun _ h1 => absurd (show false = true from h1.1) (by decide)) ?_
       refine allRdy_q rfl rfl (fun _ h1 => absurd (show false = true from h1.1) (by decide)) ?_
       exact trivial
     have H_ : ∀ (dn : Nat) (dB0 : Bool) (dB1 : Bool) (dB2 : Bool) (dB3 : Bool) (dB4 : Bool) (dB5 : Bool) (dB6 : Bool) (dB7 : Bool) (dB8 : Bool) (dQ0 : PV) (dQ1 : PV) (dQ2 : PV) (dQ3 : PV) (dQ4 : PV) (dQ5 : PV) (dQ6 : PV) (dQ7 : PV) (dQ8 : PV), (dB0 = true → dQ0 = .pt 4 0 0) → (dB1 = true → dQ1 = .agg [.own 7003]) → (dB2 = true → dQ2 = .pt 4 0 1) → (dB3 = true → dQ3 = .int .i64 nv) → (dB4 = true → dQ4 = .sl 1 a4) → (dB5 = true → dQ5 = .int .i64 n) → (dB6 = true → dQ6 = .rd [.str x3]) → (dB7 = true → dQ7 = .str x3) → (dB8 = true → dQ8 = .agg [.int .i64 1, .str x3, .str (ByteArray.mk #[105, 110, 98, 111, 120]), .str ByteArray.empty, .int .i64 0, .zc, .int .i64 0, .str ByteArray.empty]) → (dB1 = true → dB0 = true) → (dB3 = true → dB2 = true) → (dB6 = true → dB4 = true) → (dB6 = true → dB5 = true) → (dB7 = true → dB6 = true) → (dB8 = true → dB7 = true) → cntF [dB0, dB1, dB2, dB3, dB4, dB5, dB6, dB7, dB8, false, false, false, false, false, false, false, false, false] = dn → dwp T ⟨Real Try.prog, RealM Try.prog, RealC Try.prog⟩ dR dK dn [dB0, dB1, dB2, dB3, dB4, dB5, dB6, dB7, dB8, false, false, false, false, false, false, false, false, false] ({ sl := [.sl 1 a4, .bad, .pt 2 0 0, .bad, .pt 4 0 0, .int .i64 n, .pt 6 0 0, .bool a5, .bad, .bad, .bad, .bad, .bad, .bad, .bad, .bad, .int .i64 n, .sl 1 a4, .int .i64 (A.rlen a4), .bool (A.cmp .lss n (A.rlen a4)), .bad, .bad, .tup [.agg [.int .i64 a0, .str a3, .str a1, .int .i64 a2, .own 4029], .bool a5], .pt 4 0 0, .agg [.own 7003], .sl 1 a4, .int .i64 n, .rd [.str x3], .str x3, .tup [.agg [.int .i64 a0, .str a3, .str a1, .int .i64 a2, .own 4029], .bool a5], .agg [.int .i64 a0, .str a3, .str a1, .int .i64 a2, .own 4029], .bool a5, .bool a5, .bad, dQ0, dQ1, dQ2, dQ3, dQ4, dQ5, dQ6, dQ7, dQ8, .bad, .bad, .bad, .bad, .bad, .bad, .bad, .bad, .bad, .bad, .bad, .bad], bl := [(2, ⟨.var, 3, [[.zc, .int .i64 0, .zc]]⟩), (4, ⟨.var, 3, [[.own 7003, .int .i64 nv, .zc]]⟩), (6, ⟨.var, 5, [[.int .i64 a0, .str a3, .str a1, .int .i64 a2, .own 4029]]⟩), (4029, ⟨.arr, 3, a9⟩), (7003, ⟨.arr, 5, R⟩)] } : St) := by
      intro dn
      induction dn with
      | zero =>
       intro dB0 dB1 dB2 dB3 dB4 dB5 dB6 dB7 dB8 dQ0 dQ1 dQ2 dQ3 dQ4 dQ5 dQ6 dQ7 dQ8 dh0 dh1 dh2 dh3 dh4 dh5 dh6 dh7 dh8 b0 b6 b9 b8 b7 b2 dhn
       exact absurd (show false = true from cntF_zero  _ dhn 9 (by show 9 < 18; decide)) (by decide)
      | succ dn ih =>
       intro dB0 dB1 dB2 dB3 dB4 dB5 dB6 dB7 dB8 dQ0 dQ1 dQ2 dQ3 dQ4 dQ5 dQ6 dQ7 dQ8 dh0 dh1 dh2 dh3 dh4 dh5 dh6 dh7 dh8 b0 b6 b9 b8 b7 b2 dhn
       subst dhR
       refine dwp_next (is := [0, 1, 2, 3, 4, 5, 6, 7, 8, 9, 10, 11, 12, 13, 14, 15, 16, 17]) rfl ?_
       refine allRdy_q rfl rfl (fun h0 h1 => ?_) ?_
       ·
        cases (show dB0 = false from h0)
        refine ra hA 1 (by cbv) ?_
        exact ops_done (dwp_to [] (by cbv) rfl (ih true dB1 dB2 dB3 dB4 dB5 dB6 dB7 dB8 (.pt 4 0 0) (dQ1) (dQ2) (dQ3) (dQ4) (dQ5) (dQ6) (dQ7) (dQ8) (fun _ => rfl) dh1 dh2 dh3 dh4 dh5 dh6 dh7 dh8 (fun _ => rfl) b6 b9 b8 b7 b2 (cnt_dec h0 (by show 0 < 18; decide) dhn)))
       refine allRdy_q rfl rfl (fun h0 h1 => ?_) ?_
       ·
        cases (show dB1 = false from h0)
        obtain rfl : dB0 = true := h1.1
        obtain rfl := dh0 rfl
        refine ra hA 1 (by cbv) ?_
        exact ops_done (dwp_to [] (by cbv) rfl (ih true true dB2 dB3 dB4 dB5 dB6 dB7 dB8 (.pt 4 0 0) (.agg [.own 7003]) (dQ2) (dQ3) (dQ4) (dQ5) (dQ6) (dQ7) (dQ8) (fun _ => rfl) (fun _ => rfl) dh2 dh3 dh4 dh5 dh6 dh7 dh8 (fun _ => rfl) b6 b9 b8 b7 b2 (cnt_dec h0 (by show 1 < 18; decide) dhn)))
       refine allRdy_q rfl rfl (fun h0 h1 => ?_) ?_
       ·
        cases (show dB2 = false from h0)
        refine ra hA 1 (by cbv) ?_
        exact ops_done (dwp_to [] (by cbv) rfl (ih dB0 dB1 true dB3 dB4 dB5 dB6 dB7 dB8 (dQ0) (dQ1) (.pt 4 0 1) (dQ3) (dQ4) (dQ5) (dQ6) (dQ7) (dQ8) dh0 dh1 (fun _ => rfl) dh3 dh4 dh5 dh6 dh7 dh8 b0 (fun _ => rfl) b9 b8 b7 b2 (cnt_dec h0 (by show 2 < 18; decide) dhn)))
       refine allRdy_q rfl rfl (fun h0 h1 => ?_) ?_
       ·
        cases (show dB3 = false from h0)
        obtain rfl : dB2 = true := h1.1
        obtain rfl := dh2 rfl
        refine ra hA 1 (by cbv) ?_
        exact ops_done (dwp_to [] (by cbv) rfl (ih dB0 dB1 true true dB4 dB5 dB6 dB7 dB8 (dQ0) (dQ1) (.pt 4 0 1) (.int .i64 nv) (dQ4) (dQ5) (dQ6) (dQ7) (dQ8) dh0 dh1 (fun _ => rfl) (fun _ => rfl) dh4 dh5 dh6 dh7 dh8 b0 (fun _ => rfl) b9 b8 b7 b2 (cnt_dec h0 (by show 3 < 18; decide) dhn)))
       refine allRdy_q rfl rfl (fun h0 h1 => ?_) ?_
       ·
        cases (show dB4 = false from h0)
        refine ra hA 1 (by cbv) ?_
        exact ops_done (dwp_to [] (by cbv) rfl (ih dB0 dB1 dB2 dB3 true dB5 dB6 dB7 dB8 (dQ0) (dQ1) (dQ2) (dQ3) (.sl 1 a4) (dQ5) (dQ6) (dQ7) (dQ8) dh0 dh1 dh2 dh3 (fun _ => rfl) dh5 dh6 dh7 dh8 b0 b6 (fun _ => rfl) b8 b7 b2 (cnt_dec h0 (by show 4 < 18; decide) dhn)))
       refine allRdy_q rfl rfl (fun h0 h1 => ?_) ?_
       ·
        cases (show dB5 = false from h0)
        refine ra hA 1 (by cbv) ?_
        exact ops_done (dwp_to [] (by cbv) rfl (ih dB0 dB1 dB2 dB3 dB4 true dB6 dB7 dB8 (dQ0) (dQ1) (dQ2) (dQ3) (dQ4) (.int .i64 n) (dQ6) (dQ7) (dQ8) dh0 dh1 dh2 dh3 dh4 (fun _ => rfl) dh6 dh7 dh8 b0 b6 b9 (fun _ => rfl) b7 b2 (cnt_dec h0 (by show 5 < 18; decide) dhn)))
       refine allRdy_q rfl rfl (fun h0 h1 => ?_) ?_
       ·
        cases (show dB6 = false from h0)
        obtain rfl : dB4 = true := h1.1
        obtain rfl := dh4 rfl
        obtain rfl : dB5 = true := h1.2.1
        obtain rfl := dh5 rfl
        refine ops_step rfl rfl (idx_sl rfl rfl rfl rfl rfl g3 rfl f9) ?_
        exact ops_done (dwp_to [] (by cbv) rfl (ih dB0 dB1 dB2 dB3 true true true dB7 dB8 (dQ0) (dQ1) (dQ2) (dQ3) (.sl 1 a4) (.int .i64 n) (.rd [.str x3]) (dQ7) (dQ8) dh0 dh1 dh2 dh3 (fun _ => rfl) (fun _ => rfl) (fun _ => rfl) dh7 dh8 b0 b6 (fun _ => rfl) (fun _ => rfl) (fun _ => rfl) b2 (cnt_dec h0 (by show 6 < 18; decide) dhn)))
       refine allRdy_q rfl rfl (fun h0 h1 => ?_) ?_
       ·
        cases (show dB7 = false from h0)
        obtain rfl : dB6 = true := h1.1
        obtain rfl := dh6 rfl
        obtain rfl : dB4 = true := b9 rfl
        obtain rfl := dh4 rfl
        obtain rfl : dB5 = true := b8 rfl
        obtain rfl := dh5 rfl
        refine ra hA 1 (by cbv) ?_
        exact ops_done (dwp_to [] (by cbv) rfl (ih dB0 dB1 dB2 dB3 true true true true dB8 (dQ0) (dQ1) (dQ2) (dQ3) (.sl 1 a4) (.int .i64 n) (.rd [.str x3]) (.str x3) (dQ8) dh0 dh1 dh2 dh3 (fun _ => rfl) (fun _ => rfl) (fun _ => rfl) (fun _ => rfl) dh8 b0 b6 (fun _ => rfl) (fun _ => rfl) (fun _ => rfl) (fun _ => rfl) (cnt_dec h0 (by show 7 < 18; decide) dhn)))
       refine allRdy_q rfl rfl (fun h0 h1 => ?_) ?_
       ·
        cases (show dB8 = false from h0)
        obtain rfl : dB7 = true := h1.1
        obtain rfl := dh7 rfl
        obtain rfl : dB6 = true := b7 rfl
        obtain rfl := dh6 rfl
        obtain rfl : dB4 = true := b9 rfl
        obtain rfl := dh4 rfl
        obtain rfl : dB5 = true := b8 rfl
        obtain rfl := dh5 rfl
        refine ra hA 1 (by cbv) ?_
        exact ops_done (dwp_to [] (by cbv) rfl (ih dB0 dB1 dB2 dB3 true true true true true (dQ0) (dQ1) (dQ2) (dQ3) (.sl 1 a4) (.int .i64 n) (.rd [.str x3]) (.str x3) (.agg [.int .i64 1, .str x3, .str (ByteArray.mk #[105, 110, 98, 111, 120]), .str ByteArray.empty, .int .i64 0, .zc, .int .i64 0, .str ByteArray.empty]) dh0 dh1 dh2 dh3 (fun _ => rfl) (fun _ => rfl) (fun _ => rfl) (fun _ => rfl) (fun _ => rfl) b0 b6 (fun _ => rfl) (fun _ => rfl) (fun _ => rfl) (fun _ => rfl) (cnt_dec h0 (by show 8 < 18; decide) dhn)))
       refine allRdy_q rfl rfl (fun h0 h1 => ?_) ?_
       ·
        obtain rfl : dB1 = true := h1.1
        obtain rfl := dh1 rfl
        obtain rfl : dB0 = true := b0 rfl
        obtain rfl := dh0 rfl
        obtain rfl : dB3 = true := h1.2.1
        obtain rfl := dh3 rfl
        obtain rfl : dB2 = true := b6 rfl
        obtain rfl := dh2 rfl
        obtain rfl : dB8 = true := h1.2.2.1
        obtain rfl := dh8 rfl
        obtain rfl : dB7 = true := b2 rfl
        obtain rfl := dh7 rfl
        obtain rfl : dB6 = true := b7 rfl
        obtain rfl := dh6 rfl
        obtain rfl : dB4 = true := b9 rfl
        obtain rfl := dh4 rfl
        obtain rfl : dB5 = true := b8 rfl
        obtain rfl := dh5 rfl
        refine ops_callV rfl rfl (by cbv) (by cbv) hc8 (.inl (by simp only [fresh, freshL, d3, f7, e9, frR_Box, and_self])) (by cbv) ?_
        exact ops_done (dwp_to [.up 7003, .up 4029, .up 43, .up 6, .up 4, .up 2] (by cbv) rfl (H_9 dn false false false false (.bad) (.bad) (.bad) (.bad) (fun h => absurd h (by decide)) (fun h => absurd h (by decide)) (fun h => absurd h (by decide)) (fun h => absurd h (by decide)) (fun h => absurd h (by decide)) (fun h => absurd h (by decide)) (fun h => absurd h (by decide)) (cnt_dec h0 (by show 9 < 18; decide) dhn)))
       refine allRdy_q rfl rfl (fun _ h1 => absurd (show false = true from h1.1) (by decide)) ?_
       refine allRdy_q rfl rfl (fun _ h1 => absurd (show false = true from h1.1) (by decide)) ?_
       refine allRdy_q rfl rfl (fun _ h1 => absurd (show false = true from h1.1) (by decide)) ?_
       refine allRdy_q rfl rfl (fun _ h1 => absurd (show false = true from h1.1) (by decide)) ?_
       refine allRdy_q rfl rfl (fun h0 h1 => ?_) ?_
       ·
        refine ra hA 1 (by cbv) ?_
        exact ops_done (dwp_to [.up 7003, .up 4029, .up 8, .up 6, .up 4, .up 2] (by cbv) rfl (j9 dn dB0 dB1 dB2 dB3 dB4 dB5 dB6 dB7 dB8 (dQ0) (dQ1) (dQ2) (dQ3) (dQ4) (dQ5) (dQ6) (dQ7) (dQ8) dh0 dh1 dh2 dh3 dh4 dh5 dh6 dh7 dh8 b0 b6 b9 b8 b7 b2 (cnt_dec h0 (by show 14 < 18; decide) dhn)))
       refine allRdy_q rfl rfl (fun _ h1 => absurd (show false = true from h1.1) (by decide)) ?_
       refine allRdy_q rfl rfl (fun _ h1 => absurd (show false = true from h1.1) (by decide)) ?_
       refine allRdy_q rfl rfl (fun _ h1 => absurd (show false = true from h1.1) (by decide)) ?_
       exact trivial
     exact dwp_to [] (by cbv) rfl (H_ 18 false false false false false false false false false (.bad) (.bad) (.bad) (.bad) (.bad) (.bad) (.bad) (.bad) (.bad) (fun h => absurd h (by decide)) (fun h => absurd h (by decide)) (fun h => absurd h (by decide)) (fun h => absurd h (by decide)) (fun h => absurd h (by decide)) (fun h => absurd h (by decide)) (fun h => absurd h (by decide)) (fun h => absurd h (by decide)) (fun h => absurd h (by decide)) (fun h => absurd h (by decide)) (fun h => absurd h (by decide)) (fun h => absurd h (by decide)) (fun h => absurd h (by decide)) (fun h => absurd h (by decide)) (fun h => absurd h (by decide)) rfl)
    refine gs (gs (gr (ra hA 2 (by cbv) (od ?_))))
    refine go_cond rfl (fun c9 => ?_) (fun c9 => ?_)
    ·
     have ec9 : a7 ≠ 0 := neq_t hA c9
     refine gs (gB (ra hA 3 (by cbv) ?_))
     refine ops_doneB (tw := [.cell 2 0 9001 5, .cell 2 2 9002 17]) (by cbv) ?_
     refine go_ret ⟨_, by cbv, ?_⟩
     show _ = PV.tup [.agg [.ow 5 ([]), .int .i64 0, .ow 17 ([])], .bool false]
     have hh : hasB L x3 inboxT = false := by rw [show hasB L _ inboxT = _ from e1.symm]; assumption
     have hm : modB L nv x3 = false := modC_f e9 (by assumption)
     have E : pnR xs = none := by rw [pnR, if_pos (by omega), hE, go_at d8, if_neg (by rw [hh]; decide), if_neg (by rw [hm]; decide)]
     simp only [(plain_none E).1, (plain_none E).2]
     rfl
    ·
     have ec9 : a7 = 0 := neq_f hA c9
     refine gk (gs (gr (ra hA 3 (by cbv) (od ?_))))
     refine gr (ra hA 3 (by cbv) (od ?_))
     refine gB (ra hA 3 (by cbv) ?_)
     refine ops_doneB (tw := [.drop 7003, .ren 43 7003, .up 7003, .up 4029, .up 8, .up 6, .up 4, .up 2]) (by cbv) ?_
     refine ⟨(S31_1 a4 (A.num .add .i64 n 1) 0 a6 b3), List.length xs - (i + 1), ?_, by cbv, i + 1, (L ++ [nBox nv x3]), b3, (A.num .add .i64 n 1), a6, rfl, ?_, rfl⟩
     ·
      omega
     ·
      have hh : hasB L x3 inboxT = false := by rw [show hasB L _ inboxT = _ from e1.symm]; assumption
      have hm : modB L nv x3 = true := modC_t e9 (by assumption)
      have en : a6 = nv + 1 := by rw [f7]; exact modN_t hm
      refine ⟨by rw [add_i64 hA (by omega) (by omega)]; omega, by omega, by rw [d3, modL_t hm], by rw [en, List.length_append]; simp only [List.length_cons, List.length_nil]; omega, by rw [List.length_append]; simp only [List.length_cons, List.length_nil]; omega, by rw [en]; exact okL_step hok (by omega) hm, ?_⟩
      rw [hE, go_at d8, if_neg (by rw [hh]; decide), if_pos hm, en]
  ·
   have ec2 : (A.rlen a4) ≤ n := lss_f hA c2
   refine go_exit ⟨fun _ => ?_, fun h => absurd rfl h⟩
   refine gs (gB (ra hA 3 (by cbv) ?_))
   refine ops_doneB (tw := [.cell 2 2 9009 17]) (by cbv) ?_
   refine go_ret ⟨_, by cbv, ?_⟩
   show _ = PV.tup [.agg [.ow 5 R, .int .i64 nv, .ow 17 ([])], .bool true]
   have E : pnR xs = some (L, nv) := by rw [pnR, if_pos (by omega), hE, go_end (by omega)]
   simp only [(plain_some E).1, (plain_some E).2, hR]
   rfl
end Go.Av
