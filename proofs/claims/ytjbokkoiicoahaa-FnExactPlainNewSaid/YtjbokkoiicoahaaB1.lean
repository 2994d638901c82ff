/- Walks: boxes. -/
import Derived.Test.YtjbokkoiicoahaaR1
namespace Go.Av
open Go Go.Proofs
set_option maxRecDepth 100000
set_option maxHeartbeats 4000000
set_option linter.unusedVariables false
set_option linter.unusedSimpArgs false
def inboxT : ByteArray := ByteArray.mk #[105, 110, 98, 111, 120]
def boxIs (u k : ByteArray) (b : GBox) : Bool := decide (b.User = u) && decide (b.Name = k)
def zBox : GBox := ⟨0, ByteArray.empty, ByteArray.empty, 0, []⟩
def getB (xs : List GBox) (u k : ByteArray) : GBox := (xs.find? (boxIs u k)).getD zBox
def hasB (xs : List GBox) (u k : ByteArray) : Bool := (xs.find? (boxIs u k)).isSome
def namesB (xs : List GBox) (u : ByteArray) : List ByteArray := (xs.filter fun b => decide (b.User = u)).map GBox.Name
theorem find_at {α : Type} {p : α → Bool} {xs : List α} {i : Nat} {x : α} (h : xs[i]? = some x) : (xs.drop i).find? p = if p x = true then some x else (xs.drop (i + 1)).find? p := by
 obtain ⟨hl, rfl⟩ := List.getElem?_eq_some_iff.1 h
 rw [List.drop_eq_getElem_cons hl, List.find?_cons]
 cases p xs[i] <;> rfl
theorem names_at {xs : List GBox} {u : ByteArray} {i : Nat} {x : GBox} (h : xs[i]? = some x) : namesB (xs.take (i + 1)) u = if x.User = u then namesB (xs.take i) u ++ [x.Name] else namesB (xs.take i) u := by
 rw [List.take_add_one, h, Option.toList_some, namesB, List.filter_append, List.map_append]
 by_cases hk : x.User = u <;> simp [List.filter_cons, hk, namesB]
theorem names_len (xs : List GBox) (u : ByteArray) (i : Nat) (h : i ≤ xs.length) : (namesB (xs.take i) u).length ≤ i := by
 have h1 := List.length_filter_le (fun b : GBox => decide (b.User = u)) (xs.take i)
 rw [List.length_take] at h1
 unfold namesB; rw [List.length_map]; omega
theorem r_Clone_Mail (A : Alg) (hA : A = std) (x : List GMail) (hb : List.length x ≤ 1048576) : Real Try.prog 163 [.sl 3 (List.map eMail x)] (.ow 3 (List.map eoMail x)) := by
 obtain ⟨x_r, e6⟩ := nm (x.map eMail)
 have g4 := rlen_map hA e6
 refine real_args (args' := [.sl 3 x_r]) (by subst e6; rfl) ?_
 refine real tyOk Try.func163 (by kernel_rfl) (afun_of rfl ?_)
 refine gs (gr (ra hA 1 (by cbv) (od ?_)))
 refine gs (gs (gr (ra hA 1 (by cbv) ?_)))
 refine ops_isnil rfl rfl rfl rfl (by cbv) (fun b1 hb1 => ?_)
 refine od ?_
 refine go_cond rfl (fun c2 => ?_) (fun c2 => ?_)
 ·
  refine gs (gB (ra hA 1 (by cbv) ?_))
  refine ops_doneB (tw := [.slot 2 2 3]) (by cbv) ?_
  refine go_ret ⟨_, by cbv, ?_⟩
  show _ = (PV.ow 3 ([]))
  refine congrArg (PV.ow 3) ?_
  exact Eq.trans (show List.map eoMail x = List.map eMail x from rfl) (e6.symm.trans (hb1 c2))
 ·
  refine gk (gs (gr (ra hA 2 (by cbv) ?_)))
  obtain ⟨r3, hr3⟩ := nm (([]) ++ x_r : RR)
  have er3 : r3 = List.map eoMail (([]) ++ x) := by rw [hr3]; exact app_eq rfl e6
  have lr3 := rlen_map hA er3
  refine ops_step rfl rfl (app_own rfl rfl rfl rfl rfl rfl rfl rfl hr3 (by cbv) (by cbv) (by cbv) rfl (by
   show (List.length ([]) + List.length x_r) * _ ≤ _
   show (List.length ([] : RR) + List.length x_r) * 32 ≤ _
   rw [e6]; simp only [List.length_nil, List.length_map]; omega) (by decide) (by decide)) ?_
  refine ra hA 1 (by cbv) (od ?_)
  refine go_ret ⟨_, by cbv, ?_⟩
  show _ = (PV.ow 3 r3)
  refine congrArg (PV.ow 3) ?_
  exact (er3.trans rfl).symm
theorem r_impl_cloneBox (A : Alg) (hA : A = std) (x : GBox) (hb : List.length x.Mails ≤ 1048576) : Real Try.prog 142 [.agg (eBox x)] (.agg (eoBox x)) := by
 obtain ⟨d1, e1, e3, d9, b9⟩ := x
 obtain ⟨b8, b6⟩ := nm (b9.map eMail)
 have e9 := rlen_map hA b6
 refine real_args (args' := [.agg [.int .i64 d1, .str e1, .str e3, .int .i64 d9, .sl 3 b8]]) (by subst b6; rfl) ?_
 have hb : List.length b9 ≤ 1048576 := hb
 refine real tyOk Try.func142 (by kernel_rfl) (afun_of rfl ?_)
 refine gs (gr (ra hA 2 (by cbv) (od ?_)))
 refine gs (gr (ra hA 2 (by cbv) ?_))
 obtain ⟨e8, f3, hc2⟩ : ∃ (e8 : RR), e8 = List.map eoMail b9 ∧ Real Try.prog 163 [.sl 3 b8] (.ow 3 e8) := ⟨_, rfl, by subst b6; exact r_Clone_Mail A hA b9 (by omega)⟩
 have g3 := rlen_map hA f3
 refine ops_callV rfl rfl (by cbv) (by cbv) hc2 (.inr rfl) (by cbv) ?_
 refine ra hA 2 (by cbv) (od ?_)
 refine gs (gr (ra hA 2 (by cbv) (od ?_)))
 refine go_ret ⟨_, by cbv, ?_⟩
 show _ = (PV.agg [.int .i64 d1, .str e1, .str e3, .int .i64 d9, .ow 3 e8])
 simp only [f3, List.nil_append]
 rfl
theorem r_spec_l07Box (A : Alg) (hA : A = std) (x : GBox) (hb : List.length x.Mails ≤ 1048576) : Real Try.prog 106 [.agg (eBox x)] (.agg (eoBox x)) := by
 obtain ⟨d1, e1, e3, d9, b9⟩ := x
 obtain ⟨b8, b6⟩ := nm (b9.map eMail)
 have e9 := rlen_map hA b6
 refine real_args (args' := [.agg [.int .i64 d1, .str e1, .str e3, .int .i64 d9, .sl 3 b8]]) (by subst b6; rfl) ?_
 have hb : List.length b9 ≤ 1048576 := hb
 refine real tyOk Try.func106 (by kernel_rfl) (afun_of rfl ?_)
 refine gs (gr (ra hA 2 (by cbv) (od ?_)))
 refine gs (gr (ra hA 3 (by cbv) ?_))
 obtain ⟨r1, hr1⟩ := nm (([]) ++ b8 : RR)
 have er1 : r1 = List.map eoMail (([]) ++ b9) := by rw [hr1]; exact app_eq rfl b6
 have lr1 := rlen_map hA er1
 refine ops_step rfl rfl (app_own rfl rfl rfl rfl rfl rfl rfl rfl hr1 (by cbv) (by cbv) (by cbv) rfl (by
  show (List.length ([]) + List.length b8) * _ ≤ _
  simp only [List.length_nil, List.length_map, Nat.zero_add, *]
  omega) (by decide) (by decide)) ?_
 refine ra hA 2 (by cbv) (od ?_)
 refine gs (gr (ra hA 2 (by cbv) (od ?_)))
 refine go_ret ⟨_, by cbv, ?_⟩
 show _ = (PV.agg [.int .i64 d1, .str e1, .str e3, .int .i64 d9, .ow 3 r1])
 simp only [er1, List.nil_append]
 rfl
def S155_1 (p0 : ByteArray) (p1 : ByteArray) (p2 : RR) (p3 : Int) (p4 : Int) (p5 : Int) (p6 : ByteArray) : St := { sl := [.bad, .str p0, .str p1, .bad, .bad, .bad, .pt 6 0 0, .bad, .bad, .bad, .bad, .sl 5 p2, .int .i64 p3, .int .i64 p4, .bad, .bad, .bad, .bad, .bad, .bad, .bad, .bad, .bad, .bad, .bad, .bad, .bad, .bad, .bad, .bad, .bad], bl := [(6, ⟨.var, 5, [[.int .i64 p5, .str p6, .str p6, .int .i64 p5, .zc]]⟩)] }
theorem r_impl_BoxOf (A : Alg) (hA : A = std) (s : GState) (u : ByteArray) (k : ByteArray) (hz : ∀ q ∈ zsState s, q ≤ 1048576) : Real Try.prog 155 [.agg (eState s), .str u, .str k] (.tup [.agg (eoBox (getB s.Boxes u k)), .bool (hasB s.Boxes u k)]) := by
 obtain ⟨a5⟩ := s
 obtain ⟨a0, a9⟩ := nm (a5.map eBox)
 have c0 := rlen_map hA a9
 refine real_args (args' := [.agg [.sl 5 a0], .str u, .str k]) (by subst a9; rfl) ?_
 have b3 : ∀ q ∈ zsBoxS a5, q ≤ 1048576 := fun q hq => hz q (by simp only [zsState, List.mem_append]; simp only [hq, true_or, or_true])
 have e4 : List.length a5 ≤ 1048576 := b3 _ (by simp [zsBoxS])
 refine real tyOk Try.func155 (by kernel_rfl) (afun_of rfl ?_)
 refine gs (gr (ra hA 3 (by cbv) (od ?_)))
 refine gs (gs (gr (ra hA 4 (by cbv) (od ?_))))
 refine go_block ?_
 refine go_loopE (fun σ m => ∃ (i : Nat) (n : Int), σ = (S155_1 u k a0 (A.rlen a0) n 0 ByteArray.empty) ∧ (n = (i : Int) ∧ i ≤ List.length a5 ∧ List.find? (boxIs u k) a5 = List.find? (boxIs u k) (a5.drop i)) ∧ m = List.length a5 - i) _ [] [1, 2, 6, 11, 12, 13] [6] (S155_1 u k a0 (A.rlen a0) 0 0 ByteArray.empty) rfl (by cbv) ⟨0, 0, rfl, ?_, rfl⟩ (fun σ m hI => ?_)
 ·
  exact ⟨rfl, Nat.zero_le _, rfl⟩
 obtain ⟨i, n, rfl, ⟨hn, hi, hE⟩, rfl⟩ := hI
 refine gs (gr (ra hA 1 (by cbv) (od ?_)))
 refine gs ?_
 refine go_cond rfl (fun c1 => ?_) (fun c1 => ?_)
 ·
  have ec1 : n < (A.rlen a0) := lss_t hA c1
  refine gk (gs ?_)
  refine go_block ?_
  refine gs (gr ?_)
  have c5 : (0 : Int) ≤ n := by
   omega
  have d0 : (Int.toNat n) < List.length a5 := by
   omega
  obtain ⟨x2, hx2⟩ : ∃ x, (a5)[(Int.toNat n)]? = some x := ⟨_, List.getElem?_eq_getElem d0⟩
  have d5 := List.mem_of_getElem? hx2
  obtain ⟨a1, a3, a2, a4, a7⟩ := x2
  obtain ⟨a6, a8⟩ := nm (a7.map eMail)
  have b7 := rlen_map hA a8
  have c6 : a0[(Int.toNat n)]? = some [.int .i64 a1, .str a3, .str a2, .int .i64 a4, .sl 3 a6] := by
   subst a8; exact map_at eBox a9 hx2
  have b0 := hx2
  rw [hn] at b0
  have b0 : (a5)[i]? = some (⟨a1, a3, a2, a4, a7⟩ : GBox) := b0
  have f2 : List.length a7 ≤ 1048576 := b3 _ (List.mem_cons_of_mem _ (List.mem_flatMap.2 ⟨_, d5, by simp [zsBox, zsMailS]⟩))
  refine ops_step rfl rfl (idx_sl rfl rfl rfl rfl rfl c5 rfl c6) ?_
  refine ra hA 3 (by cbv) (od ?_)
  refine gs (gr (ra hA 5 (by cbv) ?_))
  refine ops_split 21 rfl (fun c3 => ?_) (fun c3 => ?_)
  ·
   have ec3 : a3 = u := seql_t hA c3
   refine ra hA 5 (by cbv) (od ?_)
   refine go_cond rfl (fun c4 => ?_) (fun c4 => ?_)
   ·
    have ec4 : a2 = k := seql_t hA c4
    refine gs (gr (ra hA 1 (by cbv) ?_))
    obtain ⟨c8, e0, hc6⟩ : ∃ (c8 : RR), c8 = List.map eoMail a7 ∧ Real Try.prog 142 [.agg [.int .i64 a1, .str a3, .str a2, .int .i64 a4, .sl 3 a6]] (.agg [.int .i64 a1, .str a3, .str a2, .int .i64 a4, .ow 3 c8]) := ⟨_, rfl, by subst a8; exact r_impl_cloneBox A hA (⟨a1, a3, a2, a4, a7⟩ : GBox) (by assumption)⟩
    have g0 := rlen_map hA e0
    refine ops_callV rfl rfl (by cbv) (by cbv) hc6 (.inr rfl) (by cbv) ?_
    refine ra hA 2 (by cbv) (od ?_)
    refine go_ret ⟨_, by cbv, ?_⟩
    show _ = PV.tup [.agg [.int .i64 a1, .str a3, .str a2, .int .i64 a4, .ow 3 c8], .bool true]
    have E : List.find? (boxIs u k) a5 = some (⟨a1, a3, a2, a4, a7⟩ : GBox) := by rw [hE, find_at b0, if_pos (by simp [boxIs, ec1, ec3, ec4])]
    have E1 : getB a5 u k = (⟨a1, a3, a2, a4, a7⟩ : GBox) := by rw [getB, E]; rfl
    have E2 : hasB a5 u k = true := by rw [hasB, E]; rfl
    simp only [E1, E2, e0]
    rfl
   ·
    have ec4 : a2 ≠ k := seql_f hA c4
    refine gk (gr (ra hA 2 (by cbv) (od ?_)))
    refine ⟨(S155_1 u k a0 (A.rlen a0) (A.num .add .i64 n 1) 0 ByteArray.empty), List.length a5 - (i + 1), ?_, by cbv, i + 1, (A.num .add .i64 n 1), rfl, ?_, rfl⟩
    ·
     omega
    ·
     refine ⟨by rw [add_i64 hA (by omega) (by omega)]; omega, by omega, ?_⟩
     rw [hE, find_at b0, if_neg (by simp [boxIs, ec1, ec3, ec4, ec4.symm])]
  ·
   have ec3 : a3 ≠ u := seql_f hA c3
   refine ra hA 5 (by cbv) (od ?_)
   refine go_cond rfl (fun c7 => ?_) (fun c7 => ?_)
   ·
    exact no_t c7 (show false = false from by rfl)
   ·
    refine gk (gr (ra hA 2 (by cbv) (od ?_)))
    refine ⟨(S155_1 u k a0 (A.rlen a0) (A.num .add .i64 n 1) 0 ByteArray.empty), List.length a5 - (i + 1), ?_, by cbv, i + 1, (A.num .add .i64 n 1), rfl, ?_, rfl⟩
    ·
     omega
    ·
     refine ⟨by rw [add_i64 hA (by omega) (by omega)]; omega, by omega, ?_⟩
     rw [hE, find_at b0, if_neg (by simp [boxIs, ec1, ec3, ec3.symm])]
 ·
  have ec1 : (A.rlen a0) ≤ n := lss_f hA c1
  refine go_exit ⟨fun _ => ?_, fun h => absurd rfl h⟩
  refine gs (gB (ra hA 3 (by cbv) ?_))
  refine ops_doneB (tw := [.cell 6 4 9001 3]) (by cbv) ?_
  refine go_ret ⟨_, by cbv, ?_⟩
  show _ = PV.tup [.agg [.int .i64 0, .str ByteArray.empty, .str ByteArray.empty, .int .i64 0, .ow 3 ([])], .bool false]
  have E : List.find? (boxIs u k) a5 = none := by rw [hE, List.drop_of_length_le (by omega)]; rfl
  have E1 : getB a5 u k = zBox := by rw [getB, E]; rfl
  have E2 : hasB a5 u k = false := by rw [hasB, E]; rfl
  simp only [E1, E2]
  rfl
def S71_1 (p0 : ByteArray) (p1 : ByteArray) (p2 : Int) (p3 : Int) (p4 : ByteArray) (p5 : RR) : St := { sl := [.bad, .str p0, .str p1, .pt 3 0 0, .bad, .bad, .pt 6 0 0, .bad, .int .i64 p2, .bad, .bad, .bad, .bad, .bad, .bad, .bad, .bad, .bad, .bad, .bad, .bad, .bad, .bad, .bad, .bad, .bad, .bad, .bad, .bad, .bad, .bad, .bad, .bad, .bad, .bad, .bad, .bad, .bad, .bad, .bad, .bad], bl := [(6, ⟨.var, 5, [[.int .i64 p3, .str p4, .str p4, .int .i64 p3, .zc]]⟩), (3, ⟨.var, 1, [[.sl 5 p5]]⟩)] }
theorem r_spec_BoxOf (A : Alg) (hA : A = std) (s : GState) (u : ByteArray) (k : ByteArray) (hz : ∀ q ∈ zsState s, q ≤ 1048576) : Real Try.prog 71 [.agg (eState s), .str u, .str k] (.tup [.agg (eoBox (getB s.Boxes u k)), .bool (hasB s.Boxes u k)]) := by
 obtain ⟨a5⟩ := s
 obtain ⟨a0, a9⟩ := nm (a5.map eBox)
 have c0 := rlen_map hA a9
 refine real_args (args' := [.agg [.sl 5 a0], .str u, .str k]) (by subst a9; rfl) ?_
 have b3 : ∀ q ∈ zsBoxS a5, q ≤ 1048576 := fun q hq => hz q (by simp only [zsState, List.mem_append]; simp only [hq, true_or, or_true])
 have e4 : List.length a5 ≤ 1048576 := b3 _ (by simp [zsBoxS])
 refine real tyOk Try.func71 (by kernel_rfl) (afun_of rfl ?_)
 refine gs (gr (ra hA 3 (by cbv) (od ?_)))
 refine gs (gs (gr (ra hA 1 (by cbv) (od ?_))))
 refine go_block ?_
 refine go_loopE (fun σ m => ∃ (i : Nat) (n : Int), σ = (S71_1 u k n 0 ByteArray.empty a0) ∧ (n = (i : Int) ∧ i ≤ List.length a5 ∧ List.find? (boxIs u k) a5 = List.find? (boxIs u k) (a5.drop i)) ∧ m = List.length a5 - i) _ [] [1, 2, 3, 6, 8] [6, 3] (S71_1 u k 0 0 ByteArray.empty a0) rfl (by cbv) ⟨0, 0, rfl, ?_, rfl⟩ (fun σ m hI => ?_)
 ·
  exact ⟨rfl, Nat.zero_le _, rfl⟩
 obtain ⟨i, n, rfl, ⟨hn, hi, hE⟩, rfl⟩ := hI
 refine gs (gs (gr (ra hA 5 (by cbv) (od ?_))))
 refine go_cond rfl (fun c1 => ?_) (fun c1 => ?_)
 ·
  have ec1 : n < (A.rlen a0) := lss_t hA c1
  refine gk (gs ?_)
  refine go_block ?_
  refine gs (gr (ra hA 3 (by cbv) ?_))
  have c5 : (0 : Int) ≤ n := by
   omega
  have d0 : (Int.toNat n) < List.length a5 := by
   omega
  obtain ⟨x2, hx2⟩ : ∃ x, (a5)[(Int.toNat n)]? = some x := ⟨_, List.getElem?_eq_getElem d0⟩
  have d5 := List.mem_of_getElem? hx2
  obtain ⟨a1, a3, a2, a4, a7⟩ := x2
  obtain ⟨a6, a8⟩ := nm (a7.map eMail)
  have b7 := rlen_map hA a8
  have c6 : a0[(Int.toNat n)]? = some [.int .i64 a1, .str a3, .str a2, .int .i64 a4, .sl 3 a6] := by
   subst a8; exact map_at eBox a9 hx2
  have b0 := hx2
  rw [hn] at b0
  have b0 : (a5)[i]? = some (⟨a1, a3, a2, a4, a7⟩ : GBox) := b0
  have f2 : List.length a7 ≤ 1048576 := b3 _ (List.mem_cons_of_mem _ (List.mem_flatMap.2 ⟨_, d5, by simp [zsBox, zsMailS]⟩))
  refine ops_step rfl rfl (idx_sl rfl rfl rfl rfl rfl c5 rfl c6) ?_
  refine ra hA 5 (by cbv) ?_
  refine ops_split 24 rfl (fun c3 => ?_) (fun c3 => ?_)
  ·
   have ec3 : a3 = u := seql_t hA c3
   refine ra hA 3 (by cbv) ?_
   refine ops_stepG rfl rfl rfl rfl (idx_sl rfl rfl rfl rfl rfl c5 rfl c6) ?_
   refine ra hA 5 (by cbv) (od ?_)
   refine go_cond rfl (fun c4 => ?_) (fun c4 => ?_)
   ·
    have ec4 : a2 = k := seql_t hA c4
    refine gs (gr (ra hA 3 (by cbv) ?_))
    refine ops_step rfl rfl (idx_sl rfl rfl rfl rfl rfl c5 rfl c6) ?_
    refine ra hA 1 (by cbv) ?_
    obtain ⟨c9, e2, hc6⟩ : ∃ (c9 : RR), c9 = List.map eoMail a7 ∧ Real Try.prog 106 [.agg [.int .i64 a1, .str a3, .str a2, .int .i64 a4, .sl 3 a6]] (.agg [.int .i64 a1, .str a3, .str a2, .int .i64 a4, .ow 3 c9]) := ⟨_, rfl, by subst a8; exact r_spec_l07Box A hA (⟨a1, a3, a2, a4, a7⟩ : GBox) (by assumption)⟩
    have f6 := rlen_map hA e2
    refine ops_callV rfl rfl (by cbv) (by cbv) hc6 (.inr rfl) (by cbv) ?_
    refine ra hA 2 (by cbv) (od ?_)
    refine go_ret ⟨_, by cbv, ?_⟩
    show _ = PV.tup [.agg [.int .i64 a1, .str a3, .str a2, .int .i64 a4, .ow 3 c9], .bool true]
    have E : List.find? (boxIs u k) a5 = some (⟨a1, a3, a2, a4, a7⟩ : GBox) := by rw [hE, find_at b0, if_pos (by simp [boxIs, ec1, ec3, ec4])]
    have E1 : getB a5 u k = (⟨a1, a3, a2, a4, a7⟩ : GBox) := by rw [getB, E]; rfl
    have E2 : hasB a5 u k = true := by rw [hasB, E]; rfl
    simp only [E1, E2, e2]
    rfl
   ·
    have ec4 : a2 ≠ k := seql_f hA c4
    refine gk (gr (ra hA 3 (by cbv) (od ?_)))
    refine ⟨(S71_1 u k (A.num .add .i64 n 1) 0 ByteArray.empty a0), List.length a5 - (i + 1), ?_, by cbv, i + 1, (A.num .add .i64 n 1), rfl, ?_, rfl⟩
    ·
     omega
    ·
     refine ⟨by rw [add_i64 hA (by omega) (by omega)]; omega, by omega, ?_⟩
     rw [hE, find_at b0, if_neg (by simp [boxIs, ec1, ec3, ec4, ec4.symm])]
  ·
   have ec3 : a3 ≠ u := seql_f hA c3
   refine ra hA 9 (by cbv) (od ?_)
   refine go_cond rfl (fun c7 => ?_) (fun c7 => ?_)
   ·
    exact no_t c7 (show false = false from by rfl)
   ·
    refine gk (gr (ra hA 3 (by cbv) (od ?_)))
    refine ⟨(S71_1 u k (A.num .add .i64 n 1) 0 ByteArray.empty a0), List.length a5 - (i + 1), ?_, by cbv, i + 1, (A.num .add .i64 n 1), rfl, ?_, rfl⟩
    ·
     omega
    ·
     refine ⟨by rw [add_i64 hA (by omega) (by omega)]; omega, by omega, ?_⟩
     rw [hE, find_at b0, if_neg (by simp [boxIs, ec1, ec3, ec3.symm])]
 ·
  have ec1 : (A.rlen a0) ≤ n := lss_f hA c1
  refine go_exit ⟨fun _ => ?_, fun h => absurd rfl h⟩
  refine gs (gB (ra hA 3 (by cbv) ?_))
  refine ops_doneB (tw := [.cell 6 4 9001 3]) (by cbv) ?_
  refine go_ret ⟨_, by cbv, ?_⟩
  show _ = PV.tup [.agg [.int .i64 0, .str ByteArray.empty, .str ByteArray.empty, .int .i64 0, .ow 3 ([])], .bool false]
  have E : List.find? (boxIs u k) a5 = none := by rw [hE, List.drop_of_length_le (by omega)]; rfl
  have E1 : getB a5 u k = zBox := by rw [getB, E]; rfl
  have E2 : hasB a5 u k = false := by rw [hasB, E]; rfl
  simp only [E1, E2]
  rfl
def S74_1 (p0 : ByteArray) (p1 : RR) (p2 : Int) (p3 : Int) (p4 : RR) : St := { sl := [.bad, .str p0, .bad, .bad, .bad, .own 8, .bad, .bad, .bad, .bad, .sl 5 p1, .int .i64 p2, .int .i64 p3, .bad, .bad, .bad, .bad, .bad, .bad, .bad, .bad, .bad, .bad, .bad, .bad, .bad, .bad], bl := [(8, ⟨.arr, 1, p4⟩)] }
theorem r_impl_BoxesOf (A : Alg) (hA : A = std) (s : GState) (u : ByteArray) (hl : List.length s.Boxes ≤ 1048576) : Real Try.prog 74 [.agg (eState s), .str u] (.ow 1 (List.map eString (namesB s.Boxes u))) := by
 obtain ⟨a5⟩ := s
 obtain ⟨a0, a9⟩ := nm (a5.map eBox)
 have c0 := rlen_map hA a9
 refine real_args (args' := [.agg [.sl 5 a0], .str u]) (by subst a9; rfl) ?_
 have hl : List.length a5 ≤ 1048576 := hl
 refine real tyOk Try.func74 (by kernel_rfl) (afun_of rfl ?_)
 refine gs (gr (ra hA 2 (by cbv) (od ?_)))
 refine gs (gr (ra hA 2 (by cbv) (od ?_)))
 refine gs (gs (gr (ra hA 4 (by cbv) (od ?_))))
 refine go_block ?_
 refine go_loopE (fun σ m => ∃ (i : Nat) (R : RR) (n : Int), σ = (S74_1 u a0 (A.rlen a0) n R) ∧ (n = (i : Int) ∧ i ≤ List.length a5 ∧ R = List.map eString (namesB (a5.take i) u)) ∧ m = List.length a5 - i) _ [] [1, 5, 10, 11, 12] [8] (S74_1 u a0 (A.rlen a0) 0 ([])) rfl (by cbv) ⟨0, [], 0, rfl, ?_, rfl⟩ (fun σ m hI => ?_)
 ·
  exact ⟨rfl, Nat.zero_le _, rfl⟩
 obtain ⟨i, R, n, rfl, ⟨hn, hi, hR⟩, rfl⟩ := hI
 refine gs (gr (ra hA 1 (by cbv) (od ?_)))
 refine gs ?_
 refine go_cond rfl (fun c1 => ?_) (fun c1 => ?_)
 ·
  have ec1 : n < (A.rlen a0) := lss_t hA c1
  refine gk (gs ?_)
  refine go_block ?_
  refine gs (gr ?_)
  have c5 : (0 : Int) ≤ n := by
   omega
  have d0 : (Int.toNat n) < List.length a5 := by
   omega
  obtain ⟨x2, hx2⟩ : ∃ x, (a5)[(Int.toNat n)]? = some x := ⟨_, List.getElem?_eq_getElem d0⟩
  have d5 := List.mem_of_getElem? hx2
  obtain ⟨a1, a3, a2, a4, a7⟩ := x2
  obtain ⟨a6, a8⟩ := nm (a7.map eMail)
  have b7 := rlen_map hA a8
  have c6 : a0[(Int.toNat n)]? = some [.int .i64 a1, .str a3, .str a2, .int .i64 a4, .sl 3 a6] := by
   subst a8; exact map_at eBox a9 hx2
  have b0 := hx2
  rw [hn] at b0
  have b0 : (a5)[i]? = some (⟨a1, a3, a2, a4, a7⟩ : GBox) := b0
  refine ops_step rfl rfl (idx_sl rfl rfl rfl rfl rfl c5 rfl c6) ?_
  refine ra hA 3 (by cbv) (od ?_)
  refine gs (gr (ra hA 4 (by cbv) (od ?_)))
  refine go_cond rfl (fun c3 => ?_) (fun c3 => ?_)
  ·
   have ec3 : a3 = u := seql_t hA c3
   refine gr (ra hA 4 (by cbv) ?_)
   obtain ⟨r4, hr4⟩ := nm (R ++ [[.str a2]] : RR)
   have er4 : r4 = List.map eString ((namesB (a5.take i) u) ++ ([(a2 : ByteArray)])) := by rw [hr4]; exact app_eq hR (by rfl)
   have lr4 := rlen_map hA er4
   refine ops_step rfl rfl (app_own rfl rfl rfl rfl rfl rfl rfl rfl hr4 (by cbv) (by cbv) (by cbv) rfl (by
    show (List.length R + List.length ([[.str a2]])) * _ ≤ _
    show (List.length R + 1) * 16 ≤ _
    rw [hR, List.length_map]
    have := names_len a5 u i hi
    omega) (by decide) (by decide)) ?_
   refine ra hA 1 (by cbv) (od ?_)
   refine gr (ra hA 2 (by cbv) (od ?_))
   refine ⟨(S74_1 u a0 (A.rlen a0) (A.num .add .i64 n 1) r4), List.length a5 - (i + 1), ?_, by cbv, i + 1, r4, (A.num .add .i64 n 1), rfl, ?_, rfl⟩
   ·
    omega
   ·
    refine ⟨by rw [add_i64 hA (by omega) (by omega)]; omega, by omega, ?_⟩
    rw [names_at b0, if_pos ec3]
    exact er4
  ·
   have ec3 : a3 ≠ u := seql_f hA c3
   refine gk (gr (ra hA 2 (by cbv) (od ?_)))
   refine ⟨(S74_1 u a0 (A.rlen a0) (A.num .add .i64 n 1) R), List.length a5 - (i + 1), ?_, by cbv, i + 1, R, (A.num .add .i64 n 1), rfl, ?_, rfl⟩
   ·
    omega
   ·
    refine ⟨by rw [add_i64 hA (by omega) (by omega)]; omega, by omega, ?_⟩
    rw [names_at b0, if_neg ec3]
    exact hR
 ·
  have ec1 : (A.rlen a0) ≤ n := lss_f hA c1
  refine go_exit ⟨fun _ => ?_, fun h => absurd rfl h⟩
  refine gs (gr (ra hA 2 (by cbv) (od ?_)))
  refine go_ret ⟨_, by cbv, ?_⟩
  show _ = (PV.ow 1 R)
  refine congrArg (PV.ow 1) ?_
  rw [hR, List.take_of_length_le (by omega)]
def S153_1 (p0 : ByteArray) (p1 : Int) (p2 : RR) (p3 : RR) : St := { sl := [.bad, .str p0, .pt 2 0 0, .bad, .bad, .own 7, .int .i64 p1, .bad, .bad, .bad, .bad, .bad, .bad, .bad, .bad, .bad, .bad, .bad, .bad, .bad, .bad, .bad, .bad, .bad, .bad, .bad, .bad, .bad, .bad, .bad, .bad, .bad, .bad], bl := [(7, ⟨.arr, 1, p2⟩), (2, ⟨.var, 1, [[.sl 5 p3]]⟩)] }
theorem r_spec_BoxesOf (A : Alg) (hA : A = std) (s : GState) (u : ByteArray) (hl : List.length s.Boxes ≤ 1048576) : Real Try.prog 153 [.agg (eState s), .str u] (.ow 1 (List.map eString (namesB s.Boxes u))) := by
 obtain ⟨a5⟩ := s
 obtain ⟨a0, a9⟩ := nm (a5.map eBox)
 have c0 := rlen_map hA a9
 refine real_args (args' := [.agg [.sl 5 a0], .str u]) (by subst a9; rfl) ?_
 have hl : List.length a5 ≤ 1048576 := hl
 refine real tyOk Try.func153 (by kernel_rfl) (afun_of rfl ?_)
 refine gs (gr (ra hA 2 (by cbv) (od ?_)))
 refine gs (gr (ra hA 2 (by cbv) (od ?_)))
 refine gs (gs (gr (ra hA 1 (by cbv) (od ?_))))
 refine go_block ?_
 refine go_loopE (fun σ m => ∃ (i : Nat) (R : RR) (n : Int), σ = (S153_1 u n R a0) ∧ (n = (i : Int) ∧ i ≤ List.length a5 ∧ R = List.map eString (namesB (a5.take i) u)) ∧ m = List.length a5 - i) _ [] [1, 2, 5, 6] [7, 2] (S153_1 u 0 ([]) a0) rfl (by cbv) ⟨0, [], 0, rfl, ?_, rfl⟩ (fun σ m hI => ?_)
 ·
  exact ⟨rfl, Nat.zero_le _, rfl⟩
 obtain ⟨i, R, n, rfl, ⟨hn, hi, hR⟩, rfl⟩ := hI
 refine gs (gs (gr (ra hA 5 (by cbv) (od ?_))))
 refine go_cond rfl (fun c1 => ?_) (fun c1 => ?_)
 ·
  have ec1 : n < (A.rlen a0) := lss_t hA c1
  refine gk (gs ?_)
  refine go_block ?_
  refine gs (gr (ra hA 3 (by cbv) ?_))
  have c5 : (0 : Int) ≤ n := by
   omega
  have d0 : (Int.toNat n) < List.length a5 := by
   omega
  obtain ⟨x2, hx2⟩ : ∃ x, (a5)[(Int.toNat n)]? = some x := ⟨_, List.getElem?_eq_getElem d0⟩
  have d5 := List.mem_of_getElem? hx2
  obtain ⟨a1, a3, a2, a4, a7⟩ := x2
  obtain ⟨a6, a8⟩ := nm (a7.map eMail)
  have b7 := rlen_map hA a8
  have c6 : a0[(Int.toNat n)]? = some [.int .i64 a1, .str a3, .str a2, .int .i64 a4, .sl 3 a6] := by
   subst a8; exact map_at eBox a9 hx2
  have b0 := hx2
  rw [hn] at b0
  have b0 : (a5)[i]? = some (⟨a1, a3, a2, a4, a7⟩ : GBox) := b0
  refine ops_step rfl rfl (idx_sl rfl rfl rfl rfl rfl c5 rfl c6) ?_
  refine ra hA 4 (by cbv) (od ?_)
  refine go_cond rfl (fun c3 => ?_) (fun c3 => ?_)
  ·
   have ec3 : a3 = u := seql_t hA c3
   refine gr (ra hA 4 (by cbv) ?_)
   refine ops_step rfl rfl (idx_sl rfl rfl rfl rfl rfl c5 rfl c6) ?_
   refine ra hA 3 (by cbv) ?_
   obtain ⟨r4, hr4⟩ := nm (R ++ [[.str a2]] : RR)
   have er4 : r4 = List.map eString ((namesB (a5.take i) u) ++ ([(a2 : ByteArray)])) := by rw [hr4]; exact app_eq hR (by rfl)
   have lr4 := rlen_map hA er4
   refine ops_step rfl rfl (app_own rfl rfl rfl rfl rfl rfl rfl rfl hr4 (by cbv) (by cbv) (by cbv) rfl (by
    show (List.length R + List.length ([[.str a2]])) * _ ≤ _
    show (List.length R + 1) * 16 ≤ _
    rw [hR, List.length_map]
    have := names_len a5 u i hi
    omega) (by decide) (by decide)) ?_
   refine ra hA 1 (by cbv) (od ?_)
   refine gr (ra hA 3 (by cbv) (od ?_))
   refine ⟨(S153_1 u (A.num .add .i64 n 1) r4 a0), List.length a5 - (i + 1), ?_, by cbv, i + 1, r4, (A.num .add .i64 n 1), rfl, ?_, rfl⟩
   ·
    omega
   ·
    refine ⟨by rw [add_i64 hA (by omega) (by omega)]; omega, by omega, ?_⟩
    rw [names_at b0, if_pos ec3]
    exact er4
  ·
   have ec3 : a3 ≠ u := seql_f hA c3
   refine gk (gr (ra hA 3 (by cbv) (od ?_)))
   refine ⟨(S153_1 u (A.num .add .i64 n 1) R a0), List.length a5 - (i + 1), ?_, by cbv, i + 1, R, (A.num .add .i64 n 1), rfl, ?_, rfl⟩
   ·
    omega
   ·
    refine ⟨by rw [add_i64 hA (by omega) (by omega)]; omega, by omega, ?_⟩
    rw [names_at b0, if_neg ec3]
    exact hR
 ·
  have ec1 : (A.rlen a0) ≤ n := lss_f hA c1
  refine go_exit ⟨fun _ => ?_, fun h => absurd rfl h⟩
  refine gs (gr (ra hA 2 (by cbv) (od ?_)))
  refine go_ret ⟨_, by cbv, ?_⟩
  show _ = (PV.ow 1 R)
  refine congrArg (PV.ow 1) ?_
  rw [hR, List.take_of_length_le (by omega)]
def S112_1 (p0 : RR) (p1 : Int) (p2 : Int) (p3 : RR) : St := { sl := [.bad, .bad, .pt 2 0 0, .pt 3 0 0, .bad, .bad, .bad, .bad, .sl 5 p0, .int .i64 p1, .int .i64 p2, .bad, .bad, .bad, .bad, .bad, .bad, .bad, .bad, .bad, .bad, .bad, .bad], bl := [(2, ⟨.var, 1, [[.zc]]⟩), (3, ⟨.var, 1, [[.own 7003]]⟩), (7003, ⟨.arr, 5, p3⟩)] }
theorem r_impl_cloneState (A : Alg) (hA : A = std) (s : GState) (hz : ∀ q ∈ zsState s, q ≤ 1048576) : Real Try.prog 112 [.agg (eState s)] (.agg (eoState s)) := by
 obtain ⟨a5⟩ := s
 obtain ⟨a0, a9⟩ := nm (a5.map eBox)
 have c0 := rlen_map hA a9
 refine real_args (args' := [.agg [.sl 5 a0]]) (by subst a9; rfl) ?_
 have b3 : ∀ q ∈ zsBoxS a5, q ≤ 1048576 := fun q hq => hz q (by simp only [zsState, List.mem_append]; simp only [hq, true_or, or_true])
 have e4 : List.length a5 ≤ 1048576 := b3 _ (by simp [zsBoxS])
 refine real tyOk Try.func112 (by kernel_rfl) (afun_of rfl ?_)
 refine gs (gr (ra hA 2 (by cbv) (od ?_)))
 refine gs (gr (ra hA 3 (by cbv) (od ?_)))
 refine gs (gs (gr (ra hA 4 (by cbv) (od ?_))))
 refine go_block ?_
 refine go_loopE (fun σ m => ∃ (i : Nat) (R : RR) (n : Int), σ = (S112_1 a0 (A.rlen a0) n R) ∧ (n = (i : Int) ∧ i ≤ List.length a5 ∧ R = List.map eoBox (a5.take i)) ∧ m = List.length a5 - i) _ [.cell 3 0 7003 5, .up 7003, .up 3, .up 2, .up 1] [2, 3, 8, 9, 10] [2, 3, 7003] (S112_1 a0 (A.rlen a0) 0 ([])) rfl (by cbv) ⟨0, [], 0, rfl, ?_, rfl⟩ (fun σ m hI => ?_)
 ·
  exact ⟨rfl, Nat.zero_le _, rfl⟩
 obtain ⟨i, R, n, rfl, ⟨hn, hi, hR⟩, rfl⟩ := hI
 refine gs (gr (ra hA 1 (by cbv) (od ?_)))
 refine gs ?_
 refine go_cond rfl (fun c1 => ?_) (fun c1 => ?_)
 ·
  have ec1 : n < (A.rlen a0) := lss_t hA c1
  refine gk (gs ?_)
  refine go_block ?_
  refine gs (gr ?_)
  have c5 : (0 : Int) ≤ n := by
   omega
  have d0 : (Int.toNat n) < List.length a5 := by
   omega
  obtain ⟨x2, hx2⟩ : ∃ x, (a5)[(Int.toNat n)]? = some x := ⟨_, List.getElem?_eq_getElem d0⟩
  have d5 := List.mem_of_getElem? hx2
  obtain ⟨a1, a3, a2, a4, a7⟩ := x2
  obtain ⟨a6, a8⟩ := nm (a7.map eMail)
  have b7 := rlen_map hA a8
  have c6 : a0[(Int.toNat n)]? = some [.int .i64 a1, .str a3, .str a2, .int .i64 a4, .sl 3 a6] := by
   subst a8; exact map_at eBox a9 hx2
  have b0 := hx2
  rw [hn] at b0
  have b0 : (a5)[i]? = some (⟨a1, a3, a2, a4, a7⟩ : GBox) := b0
  have f2 : List.length a7 ≤ 1048576 := b3 _ (List.mem_cons_of_mem _ (List.mem_flatMap.2 ⟨_, d5, by simp [zsBox, zsMailS]⟩))
  refine ops_step rfl rfl (idx_sl rfl rfl rfl rfl rfl c5 rfl c6) ?_
  refine ra hA 3 (by cbv) (od ?_)
  obtain ⟨b5, d7, hc4⟩ : ∃ (b5 : RR), b5 = List.map eoMail a7 ∧ Real Try.prog 142 [.agg [.int .i64 a1, .str a3, .str a2, .int .i64 a4, .sl 3 a6]] (.agg [.int .i64 a1, .str a3, .str a2, .int .i64 a4, .ow 3 b5]) := ⟨_, rfl, by subst a8; exact r_impl_cloneBox A hA (⟨a1, a3, a2, a4, a7⟩ : GBox) (by assumption)⟩
  have f7 := rlen_map hA d7
  obtain ⟨r5, hr5⟩ := nm (R ++ [[.int .i64 a1, .str a3, .str a2, .int .i64 a4, .ow 3 b5]] : RR)
  have er5 : r5 = List.map eoBox ((a5.take i) ++ ([(⟨a1, a3, a2, a4, a7⟩ : GBox)])) := by rw [hr5]; exact app_eq hR (by simp only [d7]; rfl)
  have lr5 := rlen_map hA er5
  refine go_drawE [0, 1, 2, 3, 4, 5, 6, 7] (by cbv) rfl rfl ({ sl := [.bad, .bad, .pt 2 0 0, .pt 3 0 0, .bad, .pt 5 0 0, .bad, .bad, .sl 5 a0, .int .i64 (A.rlen a0), .int .i64 n, .bool (A.cmp .lss n (A.rlen a0)), .rd [.int .i64 a1, .str a3, .str a2, .int .i64 a4, .sl 3 a6], .agg [.int .i64 a1, .str a3, .str a2, .int .i64 a4, .sl 3 a6], .pt 3 0 0, .bad, .agg [.int .i64 a1, .str a3, .str a2, .int .i64 a4, .sl 3 a6], .agg [.int .i64 a1, .str a3, .str a2, .int .i64 a4, .bad], .bad, .own 7003, .pt 3 0 0, .bad, .bad], bl := [(2, ⟨.var, 1, [[.zc]]⟩), (3, ⟨.var, 1, [[.own 7003]]⟩), (5, ⟨.var, 5, [[.int .i64 a1, .str a3, .str a2, .int .i64 a4, .sl 3 a6]]⟩), (7003, ⟨.arr, 5, r5⟩)] } : St) (fun dR dK dhR dhF => ?_) ?_
  ·
   have f1 : ∀ (dn : Nat), cntF [true, true, true, true, true, true, true, true] = dn → dwp T ⟨Real Try.prog, RealM Try.prog, RealC Try.prog⟩ dR dK dn [true, true, true, true, true, true, true, true] ({ sl := [.bad, .bad, .pt 2 0 0, .pt 3 0 0, .bad, .pt 5 0 0, .bad, .bad, .sl 5 a0, .int .i64 (A.rlen a0), .int .i64 n, .bool (A.cmp .lss n (A.rlen a0)), .rd [.int .i64 a1, .str a3, .str a2, .int .i64 a4, .sl 3 a6], .agg [.int .i64 a1, .str a3, .str a2, .int .i64 a4, .sl 3 a6], .pt 3 0 0, .bad, .agg [.int .i64 a1, .str a3, .str a2, .int .i64 a4, .sl 3 a6], .agg [.int .i64 a1, .str a3, .str a2, .int .i64 a4, .bad], .bad, .own 7003, .pt 3 0 0, .bad, .bad], bl := [(2, ⟨.var, 1, [[.zc]]⟩), (3, ⟨.var, 1, [[.own 7003]]⟩), (5, ⟨.var, 5, [[.int .i64 a1, .str a3, .str a2, .int .i64 a4, .sl 3 a6]]⟩), (7003, ⟨.arr, 5, r5⟩)] } : St) := by
    intro dn
    induction dn with
    | zero =>
     intro  dhn
     exact dwp_last dhF
    | succ dn ih =>
     intro  dhn
     subst dhR
     refine dwp_next (is := [0, 1, 2, 3, 4, 5, 6, 7]) rfl ?_
     refine allRdy_none rfl ?_
     refine allRdy_none rfl ?_
     refine allRdy_none rfl ?_
     refine allRdy_none rfl ?_
     refine allRdy_none rfl ?_
     refine allRdy_none rfl ?_
     refine allRdy_none rfl ?_
     refine allRdy_none rfl ?_
     exact trivial
   have f4 : ∀ (dn : Nat) (dB6 : Bool) (dQ6 : PV), (dB6 = true → dQ6 = .pt 3 0 0) → cntF [true, true, true, true, true, true, dB6, false] = dn → dwp T ⟨Real Try.prog, RealM Try.prog, RealC Try.prog⟩ dR dK dn [true, true, true, true, true, true, dB6, false] ({ sl := [.bad, .bad, .pt 2 0 0, .pt 3 0 0, .bad, .pt 5 0 0, .bad, .bad, .sl 5 a0, .int .i64 (A.rlen a0), .int .i64 n, .bool (A.cmp .lss n (A.rlen a0)), .rd [.int .i64 a1, .str a3, .str a2, .int .i64 a4, .sl 3 a6], .agg [.int .i64 a1, .str a3, .str a2, .int .i64 a4, .sl 3 a6], .pt 3 0 0, .bad, .agg [.int .i64 a1, .str a3, .str a2, .int .i64 a4, .sl 3 a6], .agg [.int .i64 a1, .str a3, .str a2, .int .i64 a4, .bad], .bad, .own 7003, dQ6, .bad, .bad], bl := [(2, ⟨.var, 1, [[.zc]]⟩), (3, ⟨.var, 1, [[.bad]]⟩), (5, ⟨.var, 5, [[.int .i64 a1, .str a3, .str a2, .int .i64 a4, .sl 3 a6]]⟩), (7003, ⟨.arr, 5, r5⟩)] } : St) := by
    intro dn
    induction dn with
    | zero =>
     intro dB6 dQ6 dh6 dhn
     exact absurd (show false = true from cntF_zero  _ dhn 7 (by show 7 < 8; decide)) (by decide)
    | succ dn ih =>
     intro dB6 dQ6 dh6 dhn
     subst dhR
     refine dwp_next (is := [0, 1, 2, 3, 4, 5, 6, 7]) rfl ?_
     refine allRdy_none rfl ?_
     refine allRdy_none rfl ?_
     refine allRdy_none rfl ?_
     refine allRdy_none rfl ?_
     refine allRdy_none rfl ?_
     refine allRdy_none rfl ?_
     refine allRdy_q rfl rfl (fun h0 h1 => ?_) ?_
     ·
      cases (show dB6 = false from h0)
      refine ra hA 1 (by cbv) ?_
      exact ops_done (dwp_to [] (by cbv) rfl (ih true (.pt 3 0 0) (fun _ => rfl) (cnt_dec h0 (by show 6 < 8; decide) dhn)))
     refine allRdy_q rfl rfl (fun h0 h1 => ?_) ?_
     ·
      obtain rfl : dB6 = true := h1.1
      obtain rfl := dh6 rfl
      refine ra hA 1 (by cbv) ?_
      exact ops_done (dwp_to [] (by cbv) rfl (f1 dn (cnt_dec h0 (by show 7 < 8; decide) dhn)))
     exact trivial
   have g1 : ∀ (dn : Nat) (dB0 : Bool) (dB1 : Bool) (dQ0 : PV) (dQ1 : PV), (dB0 = true → dQ0 = .pt 3 0 0) → (dB1 = true → dQ1 = .own 7003) → (dB1 = true → dB0 = true) → cntF [dB0, dB1, true, true, true, false, false, false] = dn → dwp T ⟨Real Try.prog, RealM Try.prog, RealC Try.prog⟩ dR dK dn [dB0, dB1, true, true, true, false, false, false] ({ sl := [.bad, .bad, .pt 2 0 0, .pt 3 0 0, .bad, .pt 5 0 0, .bad, .bad, .sl 5 a0, .int .i64 (A.rlen a0), .int .i64 n, .bool (A.cmp .lss n (A.rlen a0)), .rd [.int .i64 a1, .str a3, .str a2, .int .i64 a4, .sl 3 a6], .agg [.int .i64 a1, .str a3, .str a2, .int .i64 a4, .sl 3 a6], dQ0, dQ1, .agg [.int .i64 a1, .str a3, .str a2, .int .i64 a4, .sl 3 a6], .agg [.int .i64 a1, .str a3, .str a2, .int .i64 a4, .own 4017], .own 18, .bad, .bad, .bad, .bad], bl := [(2, ⟨.var, 1, [[.zc]]⟩), (3, ⟨.var, 1, [[.own 7003]]⟩), (5, ⟨.var, 5, [[.int .i64 a1, .str a3, .str a2, .int .i64 a4, .sl 3 a6]]⟩), (18, ⟨.lit, 5, [[.int .i64 a1, .str a3, .str a2, .int .i64 a4, .own 4017]]⟩), (4017, ⟨.arr, 3, b5⟩), (7003, ⟨.arr, 5, R⟩)] } : St) := by
    intro dn
    induction dn with
    | zero =>
     intro dB0 dB1 dQ0 dQ1 dh0 dh1 b2 dhn
     exact absurd (show false = true from cntF_zero  _ dhn 5 (by show 5 < 8; decide)) (by decide)
    | succ dn ih =>
     intro dB0 dB1 dQ0 dQ1 dh0 dh1 b2 dhn
     subst dhR
     refine dwp_next (is := [0, 1, 2, 3, 4, 5, 6, 7]) rfl ?_
     refine allRdy_q rfl rfl (fun h0 h1 => ?_) ?_
     ·
      cases (show dB0 = false from h0)
      refine ra hA 1 (by cbv) ?_
      exact ops_done (dwp_to [] (by cbv) rfl (ih true dB1 (.pt 3 0 0) (dQ1) (fun _ => rfl) dh1 (fun _ => rfl) (cnt_dec h0 (by show 0 < 8; decide) dhn)))
     refine allRdy_q rfl rfl (fun h0 h1 => ?_) ?_
     ·
      cases (show dB1 = false from h0)
      obtain rfl : dB0 = true := h1.1
      obtain rfl := dh0 rfl
      refine ra hA 1 (by cbv) ?_
      exact ops_done (dwp_to [] (by cbv) rfl (ih true true (.pt 3 0 0) (.own 7003) (fun _ => rfl) (fun _ => rfl) (fun _ => rfl) (cnt_dec h0 (by show 1 < 8; decide) dhn)))
     refine allRdy_none rfl ?_
     refine allRdy_none rfl ?_
     refine allRdy_none rfl ?_
     refine allRdy_q rfl rfl (fun h0 h1 => ?_) ?_
     ·
      obtain rfl : dB1 = true := h1.1
      obtain rfl := dh1 rfl
      obtain rfl : dB0 = true := b2 rfl
      obtain rfl := dh0 rfl
      refine ops_step rfl rfl (app_own rfl rfl rfl rfl rfl rfl rfl rfl hr5 (by cbv) (by cbv) (by cbv) rfl (by
       show (List.length R + List.length ([[.int .i64 a1, .str a3, .str a2, .int .i64 a4, .ow 3 b5]])) * _ ≤ _
       show (List.length R + 1) * 72 ≤ _
       rw [hR, List.length_map, List.length_take]
       omega) (by decide) (by decide)) ?_
      exact ops_done (dwp_to [] (by cbv) rfl (f4 dn false (.bad) (fun h => absurd h (by decide)) (cnt_dec h0 (by show 5 < 8; decide) dhn)))
     refine allRdy_q rfl rfl (fun _ h1 => absurd (show false = true from h1.2.2.2.2.2.1) (by decide)) ?_
     refine allRdy_q rfl rfl (fun _ h1 => absurd (show false = true from h1.1) (by decide)) ?_
     exact trivial
   have H_3 : ∀ (dn : Nat) (dB0 : Bool) (dB1 : Bool) (dQ0 : PV) (dQ1 : PV), (dB0 = true → dQ0 = .pt 3 0 0) → (dB1 = true → dQ1 = .own 7003) → (dB1 = true → dB0 = true) → cntF [dB0, dB1, true, true, false, false, false, false] = dn → dwp T ⟨Real Try.prog, RealM Try.prog, RealC Try.prog⟩ dR dK dn [dB0, dB1, true, true, false, false, false, false] ({ sl := [.bad, .bad, .pt 2 0 0, .pt 3 0 0, .bad, .pt 5 0 0, .bad, .bad, .sl 5 a0, .int .i64 (A.rlen a0), .int .i64 n, .bool (A.cmp .lss n (A.rlen a0)), .rd [.int .i64 a1, .str a3, .str a2, .int .i64 a4, .sl 3 a6], .agg [.int .i64 a1, .str a3, .str a2, .int .i64 a4, .sl 3 a6], dQ0, dQ1, .agg [.int .i64 a1, .str a3, .str a2, .int .i64 a4, .sl 3 a6], .agg [.int .i64 a1, .str a3, .str a2, .int .i64 a4, .own 4017], .bad, .bad, .bad, .bad, .bad], bl := [(2, ⟨.var, 1, [[.zc]]⟩), (3, ⟨.var, 1, [[.own 7003]]⟩), (5, ⟨.var, 5, [[.int .i64 a1, .str a3, .str a2, .int .i64 a4, .sl 3 a6]]⟩), (4017, ⟨.arr, 3, b5⟩), (7003, ⟨.arr, 5, R⟩)] } : St) := by
    intro dn
    induction dn with
    | zero =>
     intro dB0 dB1 dQ0 dQ1 dh0 dh1 b2 dhn
     exact absurd (show false = true from cntF_zero  _ dhn 4 (by show 4 < 8; decide)) (by decide)
    | succ dn ih =>
     intro dB0 dB1 dQ0 dQ1 dh0 dh1 b2 dhn
     subst dhR
     refine dwp_next (is := [0, 1, 2, 3, 4, 5, 6, 7]) rfl ?_
     refine allRdy_q rfl rfl (fun h0 h1 => ?_) ?_
     ·
      cases (show dB0 = false from h0)
      refine ra hA 1 (by cbv) ?_
      exact ops_done (dwp_to [] (by cbv) rfl (ih true dB1 (.pt 3 0 0) (dQ1) (fun _ => rfl) dh1 (fun _ => rfl) (cnt_dec h0 (by show 0 < 8; decide) dhn)))
     refine allRdy_q rfl rfl (fun h0 h1 => ?_) ?_
     ·
      cases (show dB1 = false from h0)
      obtain rfl : dB0 = true := h1.1
      obtain rfl := dh0 rfl
      refine ra hA 1 (by cbv) ?_
      exact ops_done (dwp_to [] (by cbv) rfl (ih true true (.pt 3 0 0) (.own 7003) (fun _ => rfl) (fun _ => rfl) (fun _ => rfl) (cnt_dec h0 (by show 1 < 8; decide) dhn)))
     refine allRdy_none rfl ?_
     refine allRdy_none rfl ?_
     refine allRdy_q rfl rfl (fun h0 h1 => ?_) ?_
     ·
      refine ra hA 1 (by cbv) ?_
      exact ops_done (dwp_to [.up 7003, .up 4017, .up 18, .up 5, .up 3, .up 2] (by cbv) rfl (g1 dn dB0 dB1 (dQ0) (dQ1) dh0 dh1 b2 (cnt_dec h0 (by show 4 < 8; decide) dhn)))
     refine allRdy_q rfl rfl (fun _ h1 => absurd (show false = true from h1.2.1) (by decide)) ?_
     refine allRdy_q rfl rfl (fun _ h1 => absurd (show false = true from h1.2.2.2.2.1) (by decide)) ?_
     refine allRdy_q rfl rfl (fun _ h1 => absurd (show false = true from h1.1) (by decide)) ?_
     exact trivial
   have H_ : ∀ (dn : Nat) (dB0 : Bool) (dB1 : Bool) (dB2 : Bool) (dQ0 : PV) (dQ1 : PV) (dQ2 : PV), (dB0 = true → dQ0 = .pt 3 0 0) → (dB1 = true → dQ1 = .own 7003) → (dB2 = true → dQ2 = .agg [.int .i64 a1, .str a3, .str a2, .int .i64 a4, .sl 3 a6]) → (dB1 = true → dB0 = true) → cntF [dB0, dB1, dB2, false, false, false, false, false] = dn → dwp T ⟨Real Try.prog, RealM Try.prog, RealC Try.prog⟩ dR dK dn [dB0, dB1, dB2, false, false, false, false, false] ({ sl := [.bad, .bad, .pt 2 0 0, .pt 3 0 0, .bad, .pt 5 0 0, .bad, .bad, .sl 5 a0, .int .i64 (A.rlen a0), .int .i64 n, .bool (A.cmp .lss n (A.rlen a0)), .rd [.int .i64 a1, .str a3, .str a2, .int .i64 a4, .sl 3 a6], .agg [.int .i64 a1, .str a3, .str a2, .int .i64 a4, .sl 3 a6], dQ0, dQ1, dQ2, .bad, .bad, .bad, .bad, .bad, .bad], bl := [(2, ⟨.var, 1, [[.zc]]⟩), (3, ⟨.var, 1, [[.own 7003]]⟩), (5, ⟨.var, 5, [[.int .i64 a1, .str a3, .str a2, .int .i64 a4, .sl 3 a6]]⟩), (7003, ⟨.arr, 5, R⟩)] } : St) := by
    intro dn
    induction dn with
    | zero =>
     intro dB0 dB1 dB2 dQ0 dQ1 dQ2 dh0 dh1 dh2 b2 dhn
     exact absurd (show false = true from cntF_zero  _ dhn 3 (by show 3 < 8; decide)) (by decide)
    | succ dn ih =>
     intro dB0 dB1 dB2 dQ0 dQ1 dQ2 dh0 dh1 dh2 b2 dhn
     subst dhR
     refine dwp_next (is := [0, 1, 2, 3, 4, 5, 6, 7]) rfl ?_
     refine allRdy_q rfl rfl (fun h0 h1 => ?_) ?_
     ·
      cases (show dB0 = false from h0)
      refine ra hA 1 (by cbv) ?_
      exact ops_done (dwp_to [] (by cbv) rfl (ih true dB1 dB2 (.pt 3 0 0) (dQ1) (dQ2) (fun _ => rfl) dh1 dh2 (fun _ => rfl) (cnt_dec h0 (by show 0 < 8; decide) dhn)))
     refine allRdy_q rfl rfl (fun h0 h1 => ?_) ?_
     ·
      cases (show dB1 = false from h0)
      obtain rfl : dB0 = true := h1.1
      obtain rfl := dh0 rfl
      refine ra hA 1 (by cbv) ?_
      exact ops_done (dwp_to [] (by cbv) rfl (ih true true dB2 (.pt 3 0 0) (.own 7003) (dQ2) (fun _ => rfl) (fun _ => rfl) dh2 (fun _ => rfl) (cnt_dec h0 (by show 1 < 8; decide) dhn)))
     refine allRdy_q rfl rfl (fun h0 h1 => ?_) ?_
     ·
      cases (show dB2 = false from h0)
      refine ra hA 1 (by cbv) ?_
      exact ops_done (dwp_to [] (by cbv) rfl (ih dB0 dB1 true (dQ0) (dQ1) (.agg [.int .i64 a1, .str a3, .str a2, .int .i64 a4, .sl 3 a6]) dh0 dh1 (fun _ => rfl) b2 (cnt_dec h0 (by show 2 < 8; decide) dhn)))
     refine allRdy_q rfl rfl (fun h0 h1 => ?_) ?_
     ·
      obtain rfl : dB2 = true := h1.1
      obtain rfl := dh2 rfl
      refine ops_callV rfl rfl (by cbv) (by cbv) hc4 (.inr rfl) (by cbv) ?_
      exact ops_done (dwp_to [.up 7003, .up 4017, .up 5, .up 3, .up 2] (by cbv) rfl (H_3 dn dB0 dB1 (dQ0) (dQ1) dh0 dh1 b2 (cnt_dec h0 (by show 3 < 8; decide) dhn)))
     refine allRdy_q rfl rfl (fun _ h1 => absurd (show false = true from h1.1) (by decide)) ?_
     refine allRdy_q rfl rfl (fun _ h1 => absurd (show false = true from h1.2.1) (by decide)) ?_
     refine allRdy_q rfl rfl (fun _ h1 => absurd (show false = true from h1.2.2.2.1) (by decide)) ?_
     refine allRdy_q rfl rfl (fun _ h1 => absurd (show false = true from h1.1) (by decide)) ?_
     exact trivial
   exact dwp_to [.up 7003, .up 5, .up 3, .up 2] (by cbv) rfl (H_ 8 false false false (.bad) (.bad) (.bad) (fun h => absurd h (by decide)) (fun h => absurd h (by decide)) (fun h => absurd h (by decide)) (fun h => absurd h (by decide)) rfl)
  refine gr (ra hA 2 (by cbv) (od ?_))
  refine ⟨(S112_1 a0 (A.rlen a0) (A.num .add .i64 n 1) r5), List.length a5 - (i + 1), ?_, by cbv, i + 1, r5, (A.num .add .i64 n 1), rfl, ?_, rfl⟩
  ·
   omega
  ·
   refine ⟨by rw [add_i64 hA (by omega) (by omega)]; omega, by omega, ?_⟩
   rw [List.take_add_one, b0]
   exact er5
 ·
  have ec1 : (A.rlen a0) ≤ n := lss_f hA c1
  refine go_exit ⟨fun _ => ?_, fun h => absurd rfl h⟩
  refine gs (gr (ra hA 2 (by cbv) (od ?_)))
  refine go_ret ⟨_, by cbv, ?_⟩
  show _ = (PV.agg [.ow 5 R])
  simp only [hR, List.take_of_length_le (show List.length a5 ≤ i by omega)]
  rfl
def S108_1 (p0 : Int) (p1 : RR) (p2 : RR) : St := { sl := [.bad, .pt 1 0 0, .pt 2 0 0, .pt 3 0 0, .int .i64 p0, .bad, .bad, .bad, .bad, .bad, .bad, .bad, .bad, .bad, .bad, .bad, .bad, .bad, .bad, .bad, .bad, .bad, .bad, .bad, .bad], bl := [(1, ⟨.var, 1, [[.sl 5 p1]]⟩), (2, ⟨.var, 1, [[.zc]]⟩), (3, ⟨.var, 1, [[.own 7003]]⟩), (7003, ⟨.arr, 5, p2⟩)] }
theorem r_spec_l15State (A : Alg) (hA : A = std) (s : GState) (hz : ∀ q ∈ zsState s, q ≤ 1048576) : Real Try.prog 108 [.agg (eState s)] (.agg (eoState s)) := by
 obtain ⟨a5⟩ := s
 obtain ⟨a0, a9⟩ := nm (a5.map eBox)
 have c0 := rlen_map hA a9
 refine real_args (args' := [.agg [.sl 5 a0]]) (by subst a9; rfl) ?_
 have b3 : ∀ q ∈ zsBoxS a5, q ≤ 1048576 := fun q hq => hz q (by simp only [zsState, List.mem_append]; simp only [hq, true_or, or_true])
 have e4 : List.length a5 ≤ 1048576 := b3 _ (by simp [zsBoxS])
 refine real tyOk Try.func108 (by kernel_rfl) (afun_of rfl ?_)
 refine gs (gr (ra hA 2 (by cbv) (od ?_)))
 refine gs (gr (ra hA 3 (by cbv) (od ?_)))
 refine gs (gs (gr (ra hA 1 (by cbv) (od ?_))))
 refine go_block ?_
 refine go_loopE (fun σ m => ∃ (i : Nat) (R : RR) (n : Int), σ = (S108_1 n a0 R) ∧ (n = (i : Int) ∧ i ≤ List.length a5 ∧ R = List.map eoBox (a5.take i)) ∧ m = List.length a5 - i) _ [.cell 3 0 7003 5, .up 7003, .up 3, .up 2, .up 1] [1, 2, 3, 4] [1, 2, 3, 7003] (S108_1 0 a0 ([])) rfl (by cbv) ⟨0, [], 0, rfl, ?_, rfl⟩ (fun σ m hI => ?_)
 ·
  exact ⟨rfl, Nat.zero_le _, rfl⟩
 obtain ⟨i, R, n, rfl, ⟨hn, hi, hR⟩, rfl⟩ := hI
 refine gs (gs (gr (ra hA 5 (by cbv) (od ?_))))
 refine go_cond rfl (fun c1 => ?_) (fun c1 => ?_)
 ·
  have ec1 : n < (A.rlen a0) := lss_t hA c1
  refine gk (gs ?_)
  refine go_block ?_
  have c5 : (0 : Int) ≤ n := by
   omega
  have d0 : (Int.toNat n) < List.length a5 := by
   omega
  obtain ⟨x2, hx2⟩ : ∃ x, (a5)[(Int.toNat n)]? = some x := ⟨_, List.getElem?_eq_getElem d0⟩
  have d5 := List.mem_of_getElem? hx2
  obtain ⟨a1, a3, a2, a4, a7⟩ := x2
  obtain ⟨a6, a8⟩ := nm (a7.map eMail)
  have b7 := rlen_map hA a8
  have c6 : a0[(Int.toNat n)]? = some [.int .i64 a1, .str a3, .str a2, .int .i64 a4, .sl 3 a6] := by
   subst a8; exact map_at eBox a9 hx2
  have b0 := hx2
  rw [hn] at b0
  have b0 : (a5)[i]? = some (⟨a1, a3, a2, a4, a7⟩ : GBox) := b0
  have f2 : List.length a7 ≤ 1048576 := b3 _ (List.mem_cons_of_mem _ (List.mem_flatMap.2 ⟨_, d5, by simp [zsBox, zsMailS]⟩))
  obtain ⟨b4, d8, hc4⟩ : ∃ (b4 : RR), b4 = List.map eoMail a7 ∧ Real Try.prog 106 [.agg [.int .i64 a1, .str a3, .str a2, .int .i64 a4, .sl 3 a6]] (.agg [.int .i64 a1, .str a3, .str a2, .int .i64 a4, .ow 3 b4]) := ⟨_, rfl, by subst a8; exact r_spec_l07Box A hA (⟨a1, a3, a2, a4, a7⟩ : GBox) (by assumption)⟩
  have f8 := rlen_map hA d8
  obtain ⟨r5, hr5⟩ := nm (R ++ [[.int .i64 a1, .str a3, .str a2, .int .i64 a4, .ow 3 b4]] : RR)
  have er5 : r5 = List.map eoBox ((a5.take i) ++ ([(⟨a1, a3, a2, a4, a7⟩ : GBox)])) := by rw [hr5]; exact app_eq hR (by simp only [d8]; rfl)
  have lr5 := rlen_map hA er5
  refine go_drawE [0, 1, 2, 3, 4, 5, 6, 7, 8, 9, 10, 11] (by cbv) rfl rfl ({ sl := [.bad, .pt 1 0 0, .pt 2 0 0, .pt 3 0 0, .int .i64 n, .bad, .int .i64 n, .pt 1 0 0, .sl 5 a0, .int .i64 (A.rlen a0), .bool (A.cmp .lss n (A.rlen a0)), .bad, .bad, .pt 3 0 0, .bad, .pt 1 0 0, .sl 5 a0, .int .i64 n, .rd [.int .i64 a1, .str a3, .str a2, .int .i64 a4, .sl 3 a6], .agg [.int .i64 a1, .str a3, .str a2, .int .i64 a4, .sl 3 a6], .agg [.int .i64 a1, .str a3, .str a2, .int .i64 a4, .bad], .bad, .own 7003, .pt 3 0 0, .bad], bl := [(1, ⟨.var, 1, [[.sl 5 a0]]⟩), (2, ⟨.var, 1, [[.zc]]⟩), (3, ⟨.var, 1, [[.own 7003]]⟩), (7003, ⟨.arr, 5, r5⟩)] } : St) (fun dR dK dhR dhF => ?_) ?_
  ·
   have f0 : ∀ (dn : Nat), cntF [true, true, true, true, true, true, true, true, true, true, true, true] = dn → dwp T ⟨Real Try.prog, RealM Try.prog, RealC Try.prog⟩ dR dK dn [true, true, true, true, true, true, true, true, true, true, true, true] ({ sl := [.bad, .pt 1 0 0, .pt 2 0 0, .pt 3 0 0, .int .i64 n, .bad, .int .i64 n, .pt 1 0 0, .sl 5 a0, .int .i64 (A.rlen a0), .bool (A.cmp .lss n (A.rlen a0)), .bad, .bad, .pt 3 0 0, .bad, .pt 1 0 0, .sl 5 a0, .int .i64 n, .rd [.int .i64 a1, .str a3, .str a2, .int .i64 a4, .sl 3 a6], .agg [.int .i64 a1, .str a3, .str a2, .int .i64 a4, .sl 3 a6], .agg [.int .i64 a1, .str a3, .str a2, .int .i64 a4, .bad], .bad, .own 7003, .pt 3 0 0, .bad], bl := [(1, ⟨.var, 1, [[.sl 5 a0]]⟩), (2, ⟨.var, 1, [[.zc]]⟩), (3, ⟨.var, 1, [[.own 7003]]⟩), (7003, ⟨.arr, 5, r5⟩)] } : St) := by
    intro dn
    induction dn with
    | zero =>
     intro  dhn
     exact dwp_last dhF
    | succ dn ih =>
     intro  dhn
     subst dhR
     refine dwp_next (is := [0, 1, 2, 3, 4, 5, 6, 7, 8, 9, 10, 11]) rfl ?_
     refine allRdy_none rfl ?_
     refine allRdy_none rfl ?_
     refine allRdy_none rfl ?_
     refine allRdy_none rfl ?_
     refine allRdy_none rfl ?_
     refine allRdy_none rfl ?_
     refine allRdy_none rfl ?_
     refine allRdy_none rfl ?_
     refine allRdy_none rfl ?_
     refine allRdy_none rfl ?_
     refine allRdy_none rfl ?_
     refine allRdy_none rfl ?_
     exact trivial
   have f5 : ∀ (dn : Nat) (e5 : Bool) (e7 : PV), (e5 = true → e7 = .pt 3 0 0) → cntF [true, true, true, true, true, true, true, true, true, true, e5, false] = dn → dwp T ⟨Real Try.prog, RealM Try.prog, RealC Try.prog⟩ dR dK dn [true, true, true, true, true, true, true, true, true, true, e5, false] ({ sl := [.bad, .pt 1 0 0, .pt 2 0 0, .pt 3 0 0, .int .i64 n, .bad, .int .i64 n, .pt 1 0 0, .sl 5 a0, .int .i64 (A.rlen a0), .bool (A.cmp .lss n (A.rlen a0)), .bad, .bad, .pt 3 0 0, .bad, .pt 1 0 0, .sl 5 a0, .int .i64 n, .rd [.int .i64 a1, .str a3, .str a2, .int .i64 a4, .sl 3 a6], .agg [.int .i64 a1, .str a3, .str a2, .int .i64 a4, .sl 3 a6], .agg [.int .i64 a1, .str a3, .str a2, .int .i64 a4, .bad], .bad, .own 7003, e7, .bad], bl := [(1, ⟨.var, 1, [[.sl 5 a0]]⟩), (2, ⟨.var, 1, [[.zc]]⟩), (3, ⟨.var, 1, [[.bad]]⟩), (7003, ⟨.arr, 5, r5⟩)] } : St) := by
    intro dn
    induction dn with
    | zero =>
     intro e5 e7 f9 dhn
     exact absurd (show false = true from cntF_zero  _ dhn 11 (by show 11 < 12; decide)) (by decide)
    | succ dn ih =>
     intro e5 e7 f9 dhn
     subst dhR
     refine dwp_next (is := [0, 1, 2, 3, 4, 5, 6, 7, 8, 9, 10, 11]) rfl ?_
     refine allRdy_none rfl ?_
     refine allRdy_none rfl ?_
     refine allRdy_none rfl ?_
     refine allRdy_none rfl ?_
     refine allRdy_none rfl ?_
     refine allRdy_none rfl ?_
     refine allRdy_none rfl ?_
     refine allRdy_none rfl ?_
     refine allRdy_none rfl ?_
     refine allRdy_none rfl ?_
     refine allRdy_q rfl rfl (fun h0 h1 => ?_) ?_
     ·
      cases (show e5 = false from h0)
      refine ra hA 1 (by cbv) ?_
      exact ops_done (dwp_to [] (by cbv) rfl (ih true (.pt 3 0 0) (fun _ => rfl) (cnt_dec h0 (by show 10 < 12; decide) dhn)))
     refine allRdy_q rfl rfl (fun h0 h1 => ?_) ?_
     ·
      obtain rfl : e5 = true := h1.1
      obtain rfl := f9 rfl
      refine ra hA 1 (by cbv) ?_
      exact ops_done (dwp_to [] (by cbv) rfl (f0 dn (cnt_dec h0 (by show 11 < 12; decide) dhn)))
     exact trivial
   have g2 : ∀ (dn : Nat) (dB0 : Bool) (dB1 : Bool) (dQ0 : PV) (dQ1 : PV), (dB0 = true → dQ0 = .pt 3 0 0) → (dB1 = true → dQ1 = .own 7003) → (dB1 = true → dB0 = true) → cntF [dB0, dB1, true, true, true, true, true, true, true, false, false, false] = dn → dwp T ⟨Real Try.prog, RealM Try.prog, RealC Try.prog⟩ dR dK dn [dB0, dB1, true, true, true, true, true, true, true, false, false, false] ({ sl := [.bad, .pt 1 0 0, .pt 2 0 0, .pt 3 0 0, .int .i64 n, .bad, .int .i64 n, .pt 1 0 0, .sl 5 a0, .int .i64 (A.rlen a0), .bool (A.cmp .lss n (A.rlen a0)), .bad, .bad, dQ0, dQ1, .pt 1 0 0, .sl 5 a0, .int .i64 n, .rd [.int .i64 a1, .str a3, .str a2, .int .i64 a4, .sl 3 a6], .agg [.int .i64 a1, .str a3, .str a2, .int .i64 a4, .sl 3 a6], .agg [.int .i64 a1, .str a3, .str a2, .int .i64 a4, .own 4020], .own 21, .bad, .bad, .bad], bl := [(1, ⟨.var, 1, [[.sl 5 a0]]⟩), (2, ⟨.var, 1, [[.zc]]⟩), (3, ⟨.var, 1, [[.own 7003]]⟩), (21, ⟨.lit, 5, [[.int .i64 a1, .str a3, .str a2, .int .i64 a4, .own 4020]]⟩), (4020, ⟨.arr, 3, b4⟩), (7003, ⟨.arr, 5, R⟩)] } : St) := by
    intro dn
    induction dn with
    | zero =>
     intro dB0 dB1 dQ0 dQ1 dh0 dh1 b2 dhn
     exact absurd (show false = true from cntF_zero  _ dhn 9 (by show 9 < 12; decide)) (by decide)
    | succ dn ih =>
     intro dB0 dB1 dQ0 dQ1 dh0 dh1 b2 dhn
     subst dhR
     refine dwp_next (is := [0, 1, 2, 3, 4, 5, 6, 7, 8, 9, 10, 11]) rfl ?_
     refine allRdy_q rfl rfl (fun h0 h1 => ?_) ?_
     ·
      cases (show dB0 = false from h0)
      refine ra hA 1 (by cbv) ?_
      exact ops_done (dwp_to [] (by cbv) rfl (ih true dB1 (.pt 3 0 0) (dQ1) (fun _ => rfl) dh1 (fun _ => rfl) (cnt_dec h0 (by show 0 < 12; decide) dhn)))
     refine allRdy_q rfl rfl (fun h0 h1 => ?_) ?_
     ·
      cases (show dB1 = false from h0)
      obtain rfl : dB0 = true := h1.1
      obtain rfl := dh0 rfl
      refine ra hA 1 (by cbv) ?_
      exact ops_done (dwp_to [] (by cbv) rfl (ih true true (.pt 3 0 0) (.own 7003) (fun _ => rfl) (fun _ => rfl) (fun _ => rfl) (cnt_dec h0 (by show 1 < 12; decide) dhn)))
     refine allRdy_none rfl ?_
     refine allRdy_none rfl ?_
     refine allRdy_none rfl ?_
     refine allRdy_none rfl ?_
     refine allRdy_none rfl ?_
     refine allRdy_none rfl ?_
     refine allRdy_none rfl ?_
     refine allRdy_q rfl rfl (fun h0 h1 => ?_) ?_
     ·
      obtain rfl : dB1 = true := h1.1
      obtain rfl := dh1 rfl
      obtain rfl : dB0 = true := b2 rfl
      obtain rfl := dh0 rfl
      refine ops_step rfl rfl (app_own rfl rfl rfl rfl rfl rfl rfl rfl hr5 (by cbv) (by cbv) (by cbv) rfl (by
       show (List.length R + List.length ([[.int .i64 a1, .str a3, .str a2, .int .i64 a4, .ow 3 b4]])) * _ ≤ _
       show (List.length R + 1) * 72 ≤ _
       rw [hR, List.length_map, List.length_take]
       omega) (by decide) (by decide)) ?_
      exact ops_done (dwp_to [] (by cbv) rfl (f5 dn false (.bad) (fun h => absurd h (by decide)) (cnt_dec h0 (by show 9 < 12; decide) dhn)))
     refine allRdy_q rfl rfl (fun _ h1 => absurd (show false = true from h1.2.2.2.2.2.2.2.2.2.1) (by decide)) ?_
     refine allRdy_q rfl rfl (fun _ h1 => absurd (show false = true from h1.1) (by decide)) ?_
     exact trivial
   have H_7 : ∀ (dn : Nat) (dB0 : Bool) (dB1 : Bool) (dQ0 : PV) (dQ1 : PV), (dB0 = true → dQ0 = .pt 3 0 0) → (dB1 = true → dQ1 = .own 7003) → (dB1 = true → dB0 = true) → cntF [dB0, dB1, true, true, true, true, true, true, false, false, false, false] = dn → dwp T ⟨Real Try.prog, RealM Try.prog, RealC Try.prog⟩ dR dK dn [dB0, dB1, true, true, true, true, true, true, false, false, false, false] ({ sl := [.bad, .pt 1 0 0, .pt 2 0 0, .pt 3 0 0, .int .i64 n, .bad, .int .i64 n, .pt 1 0 0, .sl 5 a0, .int .i64 (A.rlen a0), .bool (A.cmp .lss n (A.rlen a0)), .bad, .bad, dQ0, dQ1, .pt 1 0 0, .sl 5 a0, .int .i64 n, .rd [.int .i64 a1, .str a3, .str a2, .int .i64 a4, .sl 3 a6], .agg [.int .i64 a1, .str a3, .str a2, .int .i64 a4, .sl 3 a6], .agg [.int .i64 a1, .str a3, .str a2, .int .i64 a4, .own 4020], .bad, .bad, .bad, .bad], bl := [(1, ⟨.var, 1, [[.sl 5 a0]]⟩), (2, ⟨.var, 1, [[.zc]]⟩), (3, ⟨.var, 1, [[.own 7003]]⟩), (4020, ⟨.arr, 3, b4⟩), (7003, ⟨.arr, 5, R⟩)] } : St) := by
    intro dn
    induction dn with
    | zero =>
     intro dB0 dB1 dQ0 dQ1 dh0 dh1 b2 dhn
     exact absurd (show false = true from cntF_zero  _ dhn 8 (by show 8 < 12; decide)) (by decide)
    | succ dn ih =>
     intro dB0 dB1 dQ0 dQ1 dh0 dh1 b2 dhn
     subst dhR
     refine dwp_next (is := [0, 1, 2, 3, 4, 5, 6, 7, 8, 9, 10, 11]) rfl ?_
     refine allRdy_q rfl rfl (fun h0 h1 => ?_) ?_
     ·
      cases (show dB0 = false from h0)
      refine ra hA 1 (by cbv) ?_
      exact ops_done (dwp_to [] (by cbv) rfl (ih true dB1 (.pt 3 0 0) (dQ1) (fun _ => rfl) dh1 (fun _ => rfl) (cnt_dec h0 (by show 0 < 12; decide) dhn)))
     refine allRdy_q rfl rfl (fun h0 h1 => ?_) ?_
     ·
      cases (show dB1 = false from h0)
      obtain rfl : dB0 = true := h1.1
      obtain rfl := dh0 rfl
      refine ra hA 1 (by cbv) ?_
      exact ops_done (dwp_to [] (by cbv) rfl (ih true true (.pt 3 0 0) (.own 7003) (fun _ => rfl) (fun _ => rfl) (fun _ => rfl) (cnt_dec h0 (by show 1 < 12; decide) dhn)))
     refine allRdy_none rfl ?_
     refine allRdy_none rfl ?_
     refine allRdy_none rfl ?_
     refine allRdy_none rfl ?_
     refine allRdy_none rfl ?_
     refine allRdy_none rfl ?_
     refine allRdy_q rfl rfl (fun h0 h1 => ?_) ?_
     ·
      refine ra hA 1 (by cbv) ?_
      exact ops_done (dwp_to [.up 7003, .up 4020, .up 21, .up 3, .up 2, .up 1] (by cbv) rfl (g2 dn dB0 dB1 (dQ0) (dQ1) dh0 dh1 b2 (cnt_dec h0 (by show 8 < 12; decide) dhn)))
     refine allRdy_q rfl rfl (fun _ h1 => absurd (show false = true from h1.2.1) (by decide)) ?_
     refine allRdy_q rfl rfl (fun _ h1 => absurd (show false = true from h1.2.2.2.2.2.2.2.2.1) (by decide)) ?_
     refine allRdy_q rfl rfl (fun _ h1 => absurd (show false = true from h1.1) (by decide)) ?_
     exact trivial
   have H_ : ∀ (dn : Nat) (dB0 : Bool) (dB1 : Bool) (dB2 : Bool) (dB3 : Bool) (dB4 : Bool) (dB5 : Bool) (dB6 : Bool) (dQ0 : PV) (dQ1 : PV) (dQ2 : PV) (dQ3 : PV) (dQ4 : PV) (dQ5 : PV) (dQ6 : PV), (dB0 = true → dQ0 = .pt 3 0 0) → (dB1 = true → dQ1 = .own 7003) → (dB2 = true → dQ2 = .pt 1 0 0) → (dB3 = true → dQ3 = .sl 5 a0) → (dB4 = true → dQ4 = .int .i64 n) → (dB5 = true → dQ5 = .rd [.int .i64 a1, .str a3, .str a2, .int .i64 a4, .sl 3 a6]) → (dB6 = true → dQ6 = .agg [.int .i64 a1, .str a3, .str a2, .int .i64 a4, .sl 3 a6]) → (dB1 = true → dB0 = true) → (dB3 = true → dB2 = true) → (dB5 = true → dB3 = true) → (dB5 = true → dB4 = true) → (dB6 = true → dB5 = true) → cntF [dB0, dB1, dB2, dB3, dB4, dB5, dB6, false, false, false, false, false] = dn → dwp T ⟨Real Try.prog, RealM Try.prog, RealC Try.prog⟩ dR dK dn [dB0, dB1, dB2, dB3, dB4, dB5, dB6, false, false, false, false, false] ({ sl := [.bad, .pt 1 0 0, .pt 2 0 0, .pt 3 0 0, .int .i64 n, .bad, .int .i64 n, .pt 1 0 0, .sl 5 a0, .int .i64 (A.rlen a0), .bool (A.cmp .lss n (A.rlen a0)), .bad, .bad, dQ0, dQ1, dQ2, dQ3, dQ4, dQ5, dQ6, .bad, .bad, .bad, .bad, .bad], bl := [(1, ⟨.var, 1, [[.sl 5 a0]]⟩), (2, ⟨.var, 1, [[.zc]]⟩), (3, ⟨.var, 1, [[.own 7003]]⟩), (7003, ⟨.arr, 5, R⟩)] } : St) := by
    intro dn
    induction dn with
    | zero =>
     intro dB0 dB1 dB2 dB3 dB4 dB5 dB6 dQ0 dQ1 dQ2 dQ3 dQ4 dQ5 dQ6 dh0 dh1 dh2 dh3 dh4 dh5 dh6 b2 d4 d3 d2 d6 dhn
     exact absurd (show false = true from cntF_zero  _ dhn 7 (by show 7 < 12; decide)) (by decide)
    | succ dn ih =>
     intro dB0 dB1 dB2 dB3 dB4 dB5 dB6 dQ0 dQ1 dQ2 dQ3 dQ4 dQ5 dQ6 dh0 dh1 dh2 dh3 dh4 dh5 dh6 b2 d4 d3 d2 d6 dhn
     subst dhR
     refine dwp_next (is := [0, 1, 2, 3, 4, 5, 6, 7, 8, 9, 10, 11]) rfl ?_
     refine allRdy_q rfl rfl (fun h0 h1 => ?_) ?_
     ·
      cases (show dB0 = false from h0)
      refine ra hA 1 (by cbv) ?_
      exact ops_done (dwp_to [] (by cbv) rfl (ih true dB1 dB2 dB3 dB4 dB5 dB6 (.pt 3 0 0) (dQ1) (dQ2) (dQ3) (dQ4) (dQ5) (dQ6) (fun _ => rfl) dh1 dh2 dh3 dh4 dh5 dh6 (fun _ => rfl) d4 d3 d2 d6 (cnt_dec h0 (by show 0 < 12; decide) dhn)))
     refine allRdy_q rfl rfl (fun h0 h1 => ?_) ?_
     ·
      cases (show dB1 = false from h0)
      obtain rfl : dB0 = true := h1.1
      obtain rfl := dh0 rfl
      refine ra hA 1 (by cbv) ?_
      exact ops_done (dwp_to [] (by cbv) rfl (ih true true dB2 dB3 dB4 dB5 dB6 (.pt 3 0 0) (.own 7003) (dQ2) (dQ3) (dQ4) (dQ5) (dQ6) (fun _ => rfl) (fun _ => rfl) dh2 dh3 dh4 dh5 dh6 (fun _ => rfl) d4 d3 d2 d6 (cnt_dec h0 (by show 1 < 12; decide) dhn)))
     refine allRdy_q rfl rfl (fun h0 h1 => ?_) ?_
     ·
      cases (show dB2 = false from h0)
      refine ra hA 1 (by cbv) ?_
      exact ops_done (dwp_to [] (by cbv) rfl (ih dB0 dB1 true dB3 dB4 dB5 dB6 (dQ0) (dQ1) (.pt 1 0 0) (dQ3) (dQ4) (dQ5) (dQ6) dh0 dh1 (fun _ => rfl) dh3 dh4 dh5 dh6 b2 (fun _ => rfl) d3 d2 d6 (cnt_dec h0 (by show 2 < 12; decide) dhn)))
     refine allRdy_q rfl rfl (fun h0 h1 => ?_) ?_
     ·
      cases (show dB3 = false from h0)
      obtain rfl : dB2 = true := h1.1
      obtain rfl := dh2 rfl
      refine ra hA 1 (by cbv) ?_
      exact ops_done (dwp_to [] (by cbv) rfl (ih dB0 dB1 true true dB4 dB5 dB6 (dQ0) (dQ1) (.pt 1 0 0) (.sl 5 a0) (dQ4) (dQ5) (dQ6) dh0 dh1 (fun _ => rfl) (fun _ => rfl) dh4 dh5 dh6 b2 (fun _ => rfl) (fun _ => rfl) d2 d6 (cnt_dec h0 (by show 3 < 12; decide) dhn)))
     refine allRdy_q rfl rfl (fun h0 h1 => ?_) ?_
     ·
      cases (show dB4 = false from h0)
      refine ra hA 1 (by cbv) ?_
      exact ops_done (dwp_to [] (by cbv) rfl (ih dB0 dB1 dB2 dB3 true dB5 dB6 (dQ0) (dQ1) (dQ2) (dQ3) (.int .i64 n) (dQ5) (dQ6) dh0 dh1 dh2 dh3 (fun _ => rfl) dh5 dh6 b2 d4 d3 (fun _ => rfl) d6 (cnt_dec h0 (by show 4 < 12; decide) dhn)))
     refine allRdy_q rfl rfl (fun h0 h1 => ?_) ?_
     ·
      cases (show dB5 = false from h0)
      obtain rfl : dB3 = true := h1.1
      obtain rfl := dh3 rfl
      obtain rfl : dB2 = true := d4 rfl
      obtain rfl := dh2 rfl
      obtain rfl : dB4 = true := h1.2.1
      obtain rfl := dh4 rfl
      refine ops_step rfl rfl (idx_sl rfl rfl rfl rfl rfl c5 rfl c6) ?_
      exact ops_done (dwp_to [] (by cbv) rfl (ih dB0 dB1 true true true true dB6 (dQ0) (dQ1) (.pt 1 0 0) (.sl 5 a0) (.int .i64 n) (.rd [.int .i64 a1, .str a3, .str a2, .int .i64 a4, .sl 3 a6]) (dQ6) dh0 dh1 (fun _ => rfl) (fun _ => rfl) (fun _ => rfl) (fun _ => rfl) dh6 b2 (fun _ => rfl) (fun _ => rfl) (fun _ => rfl) (fun _ => rfl) (cnt_dec h0 (by show 5 < 12; decide) dhn)))
     refine allRdy_q rfl rfl (fun h0 h1 => ?_) ?_
     ·
      cases (show dB6 = false from h0)
      obtain rfl : dB5 = true := h1.1
      obtain rfl := dh5 rfl
      obtain rfl : dB3 = true := d3 rfl
      obtain rfl := dh3 rfl
      obtain rfl : dB2 = true := d4 rfl
      obtain rfl := dh2 rfl
      obtain rfl : dB4 = true := d2 rfl
      obtain rfl := dh4 rfl
      refine ra hA 1 (by cbv) ?_
      exact ops_done (dwp_to [] (by cbv) rfl (ih dB0 dB1 true true true true true (dQ0) (dQ1) (.pt 1 0 0) (.sl 5 a0) (.int .i64 n) (.rd [.int .i64 a1, .str a3, .str a2, .int .i64 a4, .sl 3 a6]) (.agg [.int .i64 a1, .str a3, .str a2, .int .i64 a4, .sl 3 a6]) dh0 dh1 (fun _ => rfl) (fun _ => rfl) (fun _ => rfl) (fun _ => rfl) (fun _ => rfl) b2 (fun _ => rfl) (fun _ => rfl) (fun _ => rfl) (fun _ => rfl) (cnt_dec h0 (by show 6 < 12; decide) dhn)))
     refine allRdy_q rfl rfl (fun h0 h1 => ?_) ?_
     ·
      obtain rfl : dB6 = true := h1.1
      obtain rfl := dh6 rfl
      obtain rfl : dB5 = true := d6 rfl
      obtain rfl := dh5 rfl
      obtain rfl : dB3 = true := d3 rfl
      obtain rfl := dh3 rfl
      obtain rfl : dB2 = true := d4 rfl
      obtain rfl := dh2 rfl
      obtain rfl : dB4 = true := d2 rfl
      obtain rfl := dh4 rfl
      refine ops_callV rfl rfl (by cbv) (by cbv) hc4 (.inr rfl) (by cbv) ?_
      exact ops_done (dwp_to [.up 7003, .up 4020, .up 3, .up 2, .up 1] (by cbv) rfl (H_7 dn dB0 dB1 (dQ0) (dQ1) dh0 dh1 b2 (cnt_dec h0 (by show 7 < 12; decide) dhn)))
     refine allRdy_q rfl rfl (fun _ h1 => absurd (show false = true from h1.1) (by decide)) ?_
     refine allRdy_q rfl rfl (fun _ h1 => absurd (show false = true from h1.2.1) (by decide)) ?_
     refine allRdy_q rfl rfl (fun _ h1 => absurd (show false = true from h1.2.2.2.2.2.2.2.1) (by decide)) ?_
     refine allRdy_q rfl rfl (fun _ h1 => absurd (show false = true from h1.1) (by decide)) ?_
     exact trivial
   exact dwp_to [] (by cbv) rfl (H_ 12 false false false false false false false (.bad) (.bad) (.bad) (.bad) (.bad) (.bad) (.bad) (fun h => absurd h (by decide)) (fun h => absurd h (by decide)) (fun h => absurd h (by decide)) (fun h => absurd h (by decide)) (fun h => absurd h (by decide)) (fun h => absurd h (by decide)) (fun h => absurd h (by decide)) (fun h => absurd h (by decide)) (fun h => absurd h (by decide)) (fun h => absurd h (by decide)) (fun h => absurd h (by decide)) (fun h => absurd h (by decide)) rfl)
  refine gr (ra hA 3 (by cbv) (od ?_))
  refine ⟨(S108_1 (A.num .add .i64 n 1) a0 r5), List.length a5 - (i + 1), ?_, by cbv, i + 1, r5, (A.num .add .i64 n 1), rfl, ?_, rfl⟩
  ·
   omega
  ·
   refine ⟨by rw [add_i64 hA (by omega) (by omega)]; omega, by omega, ?_⟩
   rw [List.take_add_one, b0]
   exact er5
 ·
  have ec1 : (A.rlen a0) ≤ n := lss_f hA c1
  refine go_exit ⟨fun _ => ?_, fun h => absurd rfl h⟩
  refine gs (gr (ra hA 2 (by cbv) (od ?_)))
  refine go_ret ⟨_, by cbv, ?_⟩
  show _ = (PV.agg [.ow 5 R])
  simp only [hR, List.take_of_length_le (show List.length a5 ≤ i by omega)]
  rfl
end Go.Av
