/- Walks: numbers. -/
import Derived.Test.YtjbokkoiicoahaaGreatJ3
import Derived.Test.YtjbokkoiicoahaaGreatSo
namespace Go.Av
open Go Go.Proofs
set_option maxRecDepth 100000
set_option maxHeartbeats 4000000
set_option linter.unusedVariables false
set_option linter.unusedSimpArgs false
theorem num_at {p : GRec → Bool} {f : GRec → Int} {xs : List GItem} {i : Nat} {x : GItem} (h : xs[i]? = some x) : numL p f (xs.take (i + 1)) = if p x.Rec = true then numL p f (xs.take i) ++ [f x.Rec] else numL p f (xs.take i) := by
 rw [List.take_add_one, h, Option.toList_some, numL, List.filter_append, List.map_append]
 by_cases hk : p x.Rec = true <;> simp [List.filter_cons, hk, numL]
theorem num_len (p : GRec → Bool) (f : GRec → Int) (xs : List GItem) (i : Nat) : (numL p f (xs.take i)).length ≤ xs.length := by
 have h1 := List.length_filter_le (fun x : GItem => p x.Rec) (xs.take i)
 rw [List.length_take] at h1
 unfold numL; rw [List.length_map]; omega
theorem sortI_len (zs : List Int) : (sortI zs).length = zs.length := List.length_mergeSort _
theorem rCompact (A : Alg) (hA : A = std) (zs : List Int) (h : zs.length ≤ 9223372036854775807) : RealC Tryz.prog 166 [.ow 1 (List.map eInt zs)] (.ow 1 (List.map eInt (Lib.compact zs))) := r_Compact zs h
theorem r_numBox (A : Alg) (hA : A = std) (r : GRec)  : Real Tryz.prog 133 [.agg (eRec r)] (.tup [.ii r.Valid, .bool (boxP r)]) := by
 obtain ⟨b1, a9, b4, b2, b0, b3, b6, b5⟩ := r
 refine real_args (args' := [.agg [.ii b1, .ii a9, .ii b4, .ii b2, .ii b0, .str b3, .str b6, .str b5]]) (by rfl) ?_
 refine real tyOk Tryz.func133 (by kernel_rfl) (afun_of rfl ?_)
 refine gx hA 3 ?_
 refine gs ?_
 refine go_draw [0, 1, 3, 4, 5, 2, 6] (by cbv) ?_
 refine dz hA 7 ?_
 refine go_ret ⟨_, by cbv, ?_⟩
 show _ = PV.tup [.ii a9, .bool (A.cmp .eql b1 1)]
 refine congrArg PV.tup ?_
 subst hA
 simp [boxP, uidP, std, ieq_dec, ]
theorem r_numUid (A : Alg) (hA : A = std) (r : GRec) (v : Int) : Real Tryz.prog 173 [.agg (eRec r), .rd [.ii v]] (.tup [.ii r.Uid, .bool (uidP v r)]) := by
 obtain ⟨b1, a9, b4, b2, b0, b3, b6, b5⟩ := r
 refine real_args (args' := [.agg [.ii b1, .ii a9, .ii b4, .ii b2, .ii b0, .str b3, .str b6, .str b5], .rd [.ii v]]) (by rfl) ?_
 refine real tyOk Tryz.func173 (by kernel_rfl) (afun_of rfl ?_)
 refine gx hA 3 ?_
 refine gs ?_
 refine go_draw [0, 1, 2, 3, 4, 5, 6, 7, 8, 10, 9, 11] (by cbv) ?_
 refine dn_ hA 4 ?_
 obtain ⟨d2, d3, hc2⟩ : ∃ (d2 : Bool), d2 = (kindIs 3 v (⟨b1, a9, b4, b2, b0, b3, b6, b5⟩ : GRec)) ∧ Real Tryz.prog 169 [.agg [.ii b1, .ii a9, .ii b4, .ii b2, .ii b0, .str b3, .str b6, .str b5], .ii 3, .ii v] (.bool d2) := ⟨_, rfl, by exact r_impl_about A hA (⟨b1, a9, b4, b2, b0, b3, b6, b5⟩ : GRec) 3 v ⟩
 refine dops_callV rfl rfl (by cbv) (by cbv) hc2 (.inr rfl) ?_
 refine dn_ hA 1 ?_
 refine dops_split 10 rfl (fun c3 => ?_) (fun c3 => ?_)
 ·
  refine dz hA 6 ?_
  refine go_ret ⟨_, by cbv, ?_⟩
  show _ = PV.tup [.ii b4, .bool true]
  refine congrArg PV.tup ?_
  subst d3
  subst hA
  simp [boxP, uidP, std, ieq_dec, c3]
 refine dn_ hA 2 ?_
 obtain ⟨c4, d4, hc5⟩ : ∃ (c4 : Bool), c4 = (kindIs 5 v (⟨b1, a9, b4, b2, b0, b3, b6, b5⟩ : GRec)) ∧ Real Tryz.prog 169 [.agg [.ii b1, .ii a9, .ii b4, .ii b2, .ii b0, .str b3, .str b6, .str b5], .ii 5, .ii v] (.bool c4) := ⟨_, rfl, by exact r_impl_about A hA (⟨b1, a9, b4, b2, b0, b3, b6, b5⟩ : GRec) 5 v ⟩
 refine dops_callG rfl rfl rfl rfl (by cbv) (by cbv) hc5 (.inr rfl) ?_
 refine dz hA 3 ?_
 refine go_ret ⟨_, by cbv, ?_⟩
 show _ = PV.tup [.ii b4, .bool c4]
 refine congrArg PV.tup ?_
 subst d4 d3
 subst hA
 simp [boxP, uidP, std, ieq_dec, c3]
def Sr_numbers_box_1 (p0 : RR) (p1 : Int) (p2 : Int) (p3 : RR) : St := { sl := [.bad, .fn 133 [], .bad, .bad, .bad, .own 10, .bad, .bad, .bad, .bad, .bad, .sl 9 p0, .ii p1, .ii p2, .bad, .bad, .bad, .bad, .bad, .bad, .bad, .bad, .bad, .bad, .bad, .bad, .bad, .bad, .bad, .bad, .bad, .bad, .bad, .bad], bl := [(10, ⟨.arr, 1, p3⟩)] }
theorem r_numbers_box (A : Alg) (hA : A = std) (xs : List GItem) (hx : List.length xs ≤ 1048576) : Real Tryz.prog 132 [.sl 9 (List.map eItem xs), .fn 133 []] (.ow 1 (List.map eInt (numS boxP GRec.Valid xs))) := by
 obtain ⟨a8, c0⟩ := nm (xs.map eItem)
 have d5 := rlen_map hA c0
 refine real_args (args' := [.sl 9 a8, .fn 133 []]) (by subst c0; rfl) ?_
 refine real tyOk Tryz.func132 (by kernel_rfl) (afun_of rfl ?_)
 refine gx hA 1 ?_
 refine gx hA 2 ?_
 refine gs (gx hA 3 ?_)
 refine go_block ?_
 refine go_loopE (fun σ m => ∃ (i : Nat) (n : Int) (R : RR), σ = (Sr_numbers_box_1 a8 (A.rlen a8) n R) ∧ (n = (i : Int) ∧ i ≤ List.length xs ∧ R = List.map eInt (numL boxP GRec.Valid (xs.take i))) ∧ m = List.length xs - i) _ [] [1, 5, 11, 12, 13] [10] (Sr_numbers_box_1 a8 (A.rlen a8) 0 ([])) rfl (by cbv) ⟨0, 0, [], rfl, ?_, rfl⟩ (fun σ m hI => ?_)
 ·
  exact ⟨rfl, Nat.zero_le _, rfl⟩
 obtain ⟨i, n, R, rfl, ⟨hn, hi, hR⟩, rfl⟩ := hI
 refine gx hA 1 ?_
 refine gs ?_
 refine go_cond rfl (fun c1 => ?_) (fun c1 => ?_)
 ·
  have ec1 : n < (A.rlen a8) := lss_t hA c1
  refine gk (gs ?_)
  refine go_block ?_
  refine gs (gr ?_)
  have c9 : (0 : Int) ≤ n := by
   omega
  have d0 : (Int.toNat n) < List.length xs := by
   omega
  obtain ⟨x2, hx2⟩ : ∃ x, (xs)[(Int.toNat n)]? = some x := ⟨_, List.getElem?_eq_getElem d0⟩
  have d7 := List.mem_of_getElem? hx2
  obtain ⟨c2, ⟨a5, a0, a1, a6, a2, a7, a3, a4⟩⟩ := x2
  have d1 : a8[(Int.toNat n)]? = some [.ii c2, .ii a5, .ii a0, .ii a1, .ii a6, .ii a2, .str a7, .str a3, .str a4] := by
   exact map_at eItem c0 hx2
  have b9 := hx2
  rw [hn] at b9
  have b9 : (xs)[i]? = some (⟨c2, ⟨a5, a0, a1, a6, a2, a7, a3, a4⟩⟩ : GItem) := b9
  refine ops_step rfl rfl (idx_sl rfl rfl rfl rfl rfl c9 rfl d1) ?_
  refine rz hA 3 ?_
  refine gs (gr (rn hA 3 ?_))
  obtain ⟨b7, b8, hc4⟩ : ∃ (b7 : Bool), b7 = (boxP (⟨a5, a0, a1, a6, a2, a7, a3, a4⟩ : GRec)) ∧ Real Tryz.prog 133 [.agg [.ii a5, .ii a0, .ii a1, .ii a6, .ii a2, .str a7, .str a3, .str a4]] (.tup [.ii a0, .bool b7]) := ⟨_, rfl, by exact r_numBox A hA (⟨a5, a0, a1, a6, a2, a7, a3, a4⟩ : GRec) ⟩
  refine ops_callV rfl rfl (by cbv) (by cbv) hc4 (.inr rfl) (by cbv) ?_
  refine rz hA 5 ?_
  refine gx hA 1 ?_
  refine go_cond rfl (fun c5 => ?_) (fun c5 => ?_)
  ·
   refine gr (rn hA 3 ?_)
   obtain ⟨r6, hr6⟩ := nm (R ++ [[.ii a0]] : RR)
   have er6 : r6 = List.map eInt ((numL boxP GRec.Valid (xs.take i)) ++ ([(a0 : Int)])) := by rw [hr6]; exact app_eq hR (by rfl)
   have lr6 := rlen_map hA er6
   refine ops_step rfl rfl (app_own rfl rfl rfl rfl rfl rfl rfl rfl hr6 (by cbv) (by cbv) (by cbv) rfl (by
    show (List.length R + List.length ([[.ii a0]])) * _ ≤ _
    have hnl := num_len boxP GRec.Valid xs i
    show (List.length R + 1) * 8 ≤ _
    rw [hR, List.length_map]; omega) (by decide) (by decide)) ?_
   refine rz hA 1 ?_
   refine gy hA 2 ?_
   refine ⟨(Sr_numbers_box_1 a8 (A.rlen a8) (A.num .add .i64 n 1) r6), List.length xs - (i + 1), ?_, by cbv, i + 1, (A.num .add .i64 n 1), r6, rfl, ?_, rfl⟩
   ·
    omega
   refine ⟨by rw [add_i64 hA (by omega) (by omega)]; omega, by omega, ?_⟩
   rw [num_at b9, if_pos (by rw [← b8, c5])]
   exact er6
  refine gk (gy hA 2 ?_)
  refine ⟨(Sr_numbers_box_1 a8 (A.rlen a8) (A.num .add .i64 n 1) R), List.length xs - (i + 1), ?_, by cbv, i + 1, (A.num .add .i64 n 1), R, rfl, ?_, rfl⟩
  ·
   omega
  refine ⟨by rw [add_i64 hA (by omega) (by omega)]; omega, by omega, ?_⟩
  rw [num_at b9, if_neg (by rw [← b8, c5]; decide)]
  exact hR
 have ec1 : (A.rlen a8) ≤ n := lss_f hA c1
 refine go_exit ⟨fun _ => ?_, fun h => absurd rfl h⟩
 refine gs ?_
 have hnl := num_len boxP GRec.Valid xs i
 have d8 : (sortI (numL boxP GRec.Valid (xs.take i))).length = (numL boxP GRec.Valid (xs.take i)).length := sortI_len _
 refine gr (rn hA 1 ?_)
 obtain ⟨so7, c6, c7⟩ : ∃ r : RR, r = List.map eInt (sortI (numL boxP GRec.Valid (xs.take i))) ∧ RealM Tryz.prog 165 [.ow 1 R] [.ow 1 r] (.tup []) := ⟨_, rfl, by subst hR; exact r_Sort (numL boxP GRec.Valid (xs.take i)) (by omega)⟩
 have d6 := rlen_map hA c6
 refine ops_callM rfl (by cbv) (by cbv) (by cbv) c7 rfl (by cbv) ?_
 refine od ?_
 refine gs (gr (rn hA 1 ?_))
 obtain ⟨z8, hz8, c8⟩ : ∃ r : RR, r = List.map eInt (Lib.compact (sortI (numL boxP GRec.Valid (xs.take i)))) ∧ RealC Tryz.prog 166 [.ow 1 so7] (.ow 1 r) := ⟨_, rfl, by subst c6; exact rCompact A hA (sortI (numL boxP GRec.Valid (xs.take i))) (by omega)⟩
 have lz8 := rlen_map hA hz8
 refine ops_callC rfl (by cbv) rfl (by cbv) (by cbv) c8 (by cbv) ?_
 refine rz hA 1 ?_
 refine go_ret ⟨_, by cbv, ?_⟩
 show _ = (PV.ow 1 z8)
 refine congrArg (PV.ow 1) ?_
 rw [hz8, List.take_of_length_le (by omega)]
 rfl
def Sr_numbers_uid_1 (p0 : Int) (p1 : RR) (p2 : Int) (p3 : Int) (p4 : RR) : St := { sl := [.bad, .fn 173 [.rd [.ii p0]], .bad, .bad, .bad, .own 10, .bad, .bad, .bad, .bad, .bad, .sl 9 p1, .ii p2, .ii p3, .bad, .bad, .bad, .bad, .bad, .bad, .bad, .bad, .bad, .bad, .bad, .bad, .bad, .bad, .bad, .bad, .bad, .bad, .bad, .bad], bl := [(10, ⟨.arr, 1, p4⟩)] }
theorem r_numbers_uid (A : Alg) (hA : A = std) (xs : List GItem) (v : Int) (hx : List.length xs ≤ 1048576) : Real Tryz.prog 132 [.sl 9 (List.map eItem xs), .fn 173 [.rd [.ii v]]] (.ow 1 (List.map eInt (numS (uidP v) GRec.Uid xs))) := by
 obtain ⟨a8, c0⟩ := nm (xs.map eItem)
 have d5 := rlen_map hA c0
 refine real_args (args' := [.sl 9 a8, .fn 173 [.rd [.ii v]]]) (by subst c0; rfl) ?_
 refine real tyOk Tryz.func132 (by kernel_rfl) (afun_of rfl ?_)
 refine gx hA 1 ?_
 refine gx hA 2 ?_
 refine gs (gx hA 3 ?_)
 refine go_block ?_
 refine go_loopE (fun σ m => ∃ (i : Nat) (n : Int) (R : RR), σ = (Sr_numbers_uid_1 v a8 (A.rlen a8) n R) ∧ (n = (i : Int) ∧ i ≤ List.length xs ∧ R = List.map eInt (numL (uidP v) GRec.Uid (xs.take i))) ∧ m = List.length xs - i) _ [] [1, 5, 11, 12, 13] [10] (Sr_numbers_uid_1 v a8 (A.rlen a8) 0 ([])) rfl (by cbv) ⟨0, 0, [], rfl, ?_, rfl⟩ (fun σ m hI => ?_)
 ·
  exact ⟨rfl, Nat.zero_le _, rfl⟩
 obtain ⟨i, n, R, rfl, ⟨hn, hi, hR⟩, rfl⟩ := hI
 refine gx hA 1 ?_
 refine gs ?_
 refine go_cond rfl (fun c1 => ?_) (fun c1 => ?_)
 ·
  have ec1 : n < (A.rlen a8) := lss_t hA c1
  refine gk (gs ?_)
  refine go_block ?_
  refine gs (gr ?_)
  have c9 : (0 : Int) ≤ n := by
   omega
  have d0 : (Int.toNat n) < List.length xs := by
   omega
  obtain ⟨x2, hx2⟩ : ∃ x, (xs)[(Int.toNat n)]? = some x := ⟨_, List.getElem?_eq_getElem d0⟩
  have d7 := List.mem_of_getElem? hx2
  obtain ⟨c2, ⟨a5, a0, a1, a6, a2, a7, a3, a4⟩⟩ := x2
  have d1 : a8[(Int.toNat n)]? = some [.ii c2, .ii a5, .ii a0, .ii a1, .ii a6, .ii a2, .str a7, .str a3, .str a4] := by
   exact map_at eItem c0 hx2
  have b9 := hx2
  rw [hn] at b9
  have b9 : (xs)[i]? = some (⟨c2, ⟨a5, a0, a1, a6, a2, a7, a3, a4⟩⟩ : GItem) := b9
  refine ops_step rfl rfl (idx_sl rfl rfl rfl rfl rfl c9 rfl d1) ?_
  refine rz hA 3 ?_
  refine gs (gr (rn hA 3 ?_))
  obtain ⟨b7, b8, hc4⟩ : ∃ (b7 : Bool), b7 = (uidP v (⟨a5, a0, a1, a6, a2, a7, a3, a4⟩ : GRec)) ∧ Real Tryz.prog 173 [.agg [.ii a5, .ii a0, .ii a1, .ii a6, .ii a2, .str a7, .str a3, .str a4], .rd [.ii v]] (.tup [.ii a1, .bool b7]) := ⟨_, rfl, by exact r_numUid A hA (⟨a5, a0, a1, a6, a2, a7, a3, a4⟩ : GRec) v ⟩
  refine ops_callV rfl rfl (by cbv) (by cbv) hc4 (.inr rfl) (by cbv) ?_
  refine rz hA 5 ?_
  refine gx hA 1 ?_
  refine go_cond rfl (fun c5 => ?_) (fun c5 => ?_)
  ·
   refine gr (rn hA 3 ?_)
   obtain ⟨r6, hr6⟩ := nm (R ++ [[.ii a1]] : RR)
   have er6 : r6 = List.map eInt ((numL (uidP v) GRec.Uid (xs.take i)) ++ ([(a1 : Int)])) := by rw [hr6]; exact app_eq hR (by rfl)
   have lr6 := rlen_map hA er6
   refine ops_step rfl rfl (app_own rfl rfl rfl rfl rfl rfl rfl rfl hr6 (by cbv) (by cbv) (by cbv) rfl (by
    show (List.length R + List.length ([[.ii a1]])) * _ ≤ _
    have hnl := num_len (uidP v) GRec.Uid xs i
    show (List.length R + 1) * 8 ≤ _
    rw [hR, List.length_map]; omega) (by decide) (by decide)) ?_
   refine rz hA 1 ?_
   refine gy hA 2 ?_
   refine ⟨(Sr_numbers_uid_1 v a8 (A.rlen a8) (A.num .add .i64 n 1) r6), List.length xs - (i + 1), ?_, by cbv, i + 1, (A.num .add .i64 n 1), r6, rfl, ?_, rfl⟩
   ·
    omega
   refine ⟨by rw [add_i64 hA (by omega) (by omega)]; omega, by omega, ?_⟩
   rw [num_at b9, if_pos (by rw [← b8, c5])]
   exact er6
  refine gk (gy hA 2 ?_)
  refine ⟨(Sr_numbers_uid_1 v a8 (A.rlen a8) (A.num .add .i64 n 1) R), List.length xs - (i + 1), ?_, by cbv, i + 1, (A.num .add .i64 n 1), R, rfl, ?_, rfl⟩
  ·
   omega
  refine ⟨by rw [add_i64 hA (by omega) (by omega)]; omega, by omega, ?_⟩
  rw [num_at b9, if_neg (by rw [← b8, c5]; decide)]
  exact hR
 have ec1 : (A.rlen a8) ≤ n := lss_f hA c1
 refine go_exit ⟨fun _ => ?_, fun h => absurd rfl h⟩
 refine gs ?_
 have hnl := num_len (uidP v) GRec.Uid xs i
 have d8 : (sortI (numL (uidP v) GRec.Uid (xs.take i))).length = (numL (uidP v) GRec.Uid (xs.take i)).length := sortI_len _
 refine gr (rn hA 1 ?_)
 obtain ⟨so7, c6, c7⟩ : ∃ r : RR, r = List.map eInt (sortI (numL (uidP v) GRec.Uid (xs.take i))) ∧ RealM Tryz.prog 165 [.ow 1 R] [.ow 1 r] (.tup []) := ⟨_, rfl, by subst hR; exact r_Sort (numL (uidP v) GRec.Uid (xs.take i)) (by omega)⟩
 have d6 := rlen_map hA c6
 refine ops_callM rfl (by cbv) (by cbv) (by cbv) c7 rfl (by cbv) ?_
 refine od ?_
 refine gs (gr (rn hA 1 ?_))
 obtain ⟨z8, hz8, c8⟩ : ∃ r : RR, r = List.map eInt (Lib.compact (sortI (numL (uidP v) GRec.Uid (xs.take i)))) ∧ RealC Tryz.prog 166 [.ow 1 so7] (.ow 1 r) := ⟨_, rfl, by subst c6; exact rCompact A hA (sortI (numL (uidP v) GRec.Uid (xs.take i))) (by omega)⟩
 have lz8 := rlen_map hA hz8
 refine ops_callC rfl (by cbv) rfl (by cbv) (by cbv) c8 (by cbv) ?_
 refine rz hA 1 ?_
 refine go_ret ⟨_, by cbv, ?_⟩
 show _ = (PV.ow 1 z8)
 refine congrArg (PV.ow 1) ?_
 rw [hz8, List.take_of_length_le (by omega)]
 rfl
end Go.Av
