/- Walks: records of a kind. -/
import Derived.Test.YtjbokkoiicoahaaGreatJ0
namespace Go.Av
open Go Go.Proofs
set_option maxRecDepth 100000
set_option maxHeartbeats 4000000
set_option linter.unusedVariables false
set_option linter.unusedSimpArgs false
theorem lat_at {p : GRec → Bool} {lt : GItem → GItem → Bool} {xs : List GItem} {i : Nat} {x : GItem} (h : xs[i]? = some x) : lat p lt (xs.take (i + 1)) = latStep p lt (lat p lt (xs.take i)) x := by
 rw [List.take_add_one, h]; simp [lat, List.foldl_append]
theorem lat_no {p : GRec → Bool} {lt : GItem → GItem → Bool} {b : Option GItem} {x : GItem} (h : p x.Rec = false) : latStep p lt b x = b := by simp [latStep, h]
theorem lat_new {p : GRec → Bool} {lt : GItem → GItem → Bool} {b : Option GItem} {x : GItem} (h : p x.Rec = true) (hb : false = b.isSome) : latStep p lt b x = some x := by
 cases b with
 | none => simp [latStep, h]
 | some y => cases hb
theorem lat_lt {p : GRec → Bool} {lt : GItem → GItem → Bool} {b : Option GItem} {x y : GItem} (h : p x.Rec = true) (hb : true = b.isSome) (hy : y = b.getD zItem) (hl : lt y x = true) : latStep p lt b x = some x := by
 cases b with
 | none => cases hb
 | some z => have hy : y = z := hy; subst hy; simp [latStep, h, hl]
theorem lat_ge {p : GRec → Bool} {lt : GItem → GItem → Bool} {b : Option GItem} {x y : GItem} (hb : true = b.isSome) (hy : y = b.getD zItem) (hl : lt y x = false) : latStep p lt b x = b := by
 cases b with
 | none => cases hb
 | some z => have hy : y = z := hy; subst hy; simp [latStep, hl]
theorem r_impl_about (A : Alg) (hA : A = std) (r : GRec) (k : Int) (v : Int)  : Real Tryz.prog 169 [.agg (eRec r), .ii k, .ii v] (.bool (kindIs k v r)) := by
 obtain ⟨a2, a0, a7, a3, a1, a4, a6, a5⟩ := r
 refine real_args (args' := [.agg [.ii a2, .ii a0, .ii a7, .ii a3, .ii a1, .str a4, .str a6, .str a5], .ii k, .ii v]) (by rfl) ?_
 refine real tyOk Tryz.func169 (by kernel_rfl) (afun_of rfl ?_)
 refine gx hA 2 ?_
 refine gs (gr (rn hA 5 ?_))
 refine ops_split 11 rfl (fun c1 => ?_) (fun c1 => ?_)
 ·
  have ec1 : a2 = k := eql_t hA c1
  refine rz hA 6 ?_
  refine go_ret ⟨_, by cbv, ?_⟩
  show _ = (PV.bool (A.cmp .eql a0 v))
  refine congrArg PV.bool ?_
  subst hA
  simp [kindIs, std, Bool.beq_eq_decide_eq, ieq_dec, ec1]
 have ec1 : a2 ≠ k := eql_f hA c1
 refine rz hA 6 ?_
 refine go_ret ⟨_, by cbv, ?_⟩
 show _ = (PV.bool false)
 refine congrArg PV.bool ?_
 subst hA
 simp [kindIs, std, Bool.beq_eq_decide_eq, ieq_dec, ec1, ec1.symm]
theorem r_mailItem_f (A : Alg) (hA : A = std) (r : GRec) (k v u : Int) : Real Tryz.prog 192 [.agg (eRec r), .rd [.ii k], .rd [.ii v], .rd [.ii u]] (.bool (mailIs k v u r)) := by
 obtain ⟨a2, a0, a7, a3, a1, a4, a6, a5⟩ := r
 refine real_args (args' := [.agg [.ii a2, .ii a0, .ii a7, .ii a3, .ii a1, .str a4, .str a6, .str a5], .rd [.ii k], .rd [.ii v], .rd [.ii u]]) (by rfl) ?_
 refine real tyOk Tryz.func192 (by kernel_rfl) (afun_of rfl ?_)
 refine gx hA 2 ?_
 refine gs (gr (rn hA 3 ?_))
 obtain ⟨d0, d1, hc2⟩ : ∃ (d0 : Bool), d0 = (kindIs k v (⟨a2, a0, a7, a3, a1, a4, a6, a5⟩ : GRec)) ∧ Real Tryz.prog 169 [.agg [.ii a2, .ii a0, .ii a7, .ii a3, .ii a1, .str a4, .str a6, .str a5], .ii k, .ii v] (.bool d0) := ⟨_, rfl, by exact r_impl_about A hA (⟨a2, a0, a7, a3, a1, a4, a6, a5⟩ : GRec) k v ⟩
 refine ops_callV rfl rfl (by cbv) (by cbv) hc2 (.inr rfl) (by cbv) ?_
 refine rn hA 1 ?_
 refine ops_split 10 rfl (fun c3 => ?_) (fun c3 => ?_)
 ·
  refine rz hA 6 ?_
  refine go_ret ⟨_, by cbv, ?_⟩
  show _ = (PV.bool (A.cmp .eql a7 u))
  refine congrArg PV.bool ?_
  subst d1
  subst hA
  simp [mailIs, std, Bool.beq_eq_decide_eq, ieq_dec, c3]
 refine rz hA 6 ?_
 refine go_ret ⟨_, by cbv, ?_⟩
 show _ = (PV.bool false)
 refine congrArg PV.bool ?_
 subst d1
 subst hA
 simp [mailIs, std, Bool.beq_eq_decide_eq, ieq_dec, c3]
theorem r_boxThere_f (A : Alg) (hA : A = std) (r : GRec) (v : Int) : Real Tryz.prog 168 [.agg (eRec r), .rd [.ii v]] (.bool (kindIs 2 v r)) := by
 obtain ⟨a2, a0, a7, a3, a1, a4, a6, a5⟩ := r
 refine real_args (args' := [.agg [.ii a2, .ii a0, .ii a7, .ii a3, .ii a1, .str a4, .str a6, .str a5], .rd [.ii v]]) (by rfl) ?_
 refine real tyOk Tryz.func168 (by kernel_rfl) (afun_of rfl ?_)
 refine gx hA 2 ?_
 refine gs (gr (rn hA 2 ?_))
 obtain ⟨b6, c9, hc2⟩ : ∃ (b6 : Bool), b6 = (kindIs 2 v (⟨a2, a0, a7, a3, a1, a4, a6, a5⟩ : GRec)) ∧ Real Tryz.prog 169 [.agg [.ii a2, .ii a0, .ii a7, .ii a3, .ii a1, .str a4, .str a6, .str a5], .ii 2, .ii v] (.bool b6) := ⟨_, rfl, by exact r_impl_about A hA (⟨a2, a0, a7, a3, a1, a4, a6, a5⟩ : GRec) 2 v ⟩
 refine ops_callV rfl rfl (by cbv) (by cbv) hc2 (.inr rfl) (by cbv) ?_
 refine rz hA 1 ?_
 refine go_ret ⟨_, by cbv, ?_⟩
 show _ = (PV.bool b6)
 refine congrArg PV.bool ?_
 subst c9
 subst hA
 simp [kindIs, std, Bool.beq_eq_decide_eq, ieq_dec, ]
theorem r_boxThere_g (A : Alg) (hA : A = std) (r : GRec) (v : Int) : Real Tryz.prog 171 [.agg (eRec r), .rd [.ii v]] (.bool (kindIs 1 v r)) := by
 obtain ⟨a2, a0, a7, a3, a1, a4, a6, a5⟩ := r
 refine real_args (args' := [.agg [.ii a2, .ii a0, .ii a7, .ii a3, .ii a1, .str a4, .str a6, .str a5], .rd [.ii v]]) (by rfl) ?_
 refine real tyOk Tryz.func171 (by kernel_rfl) (afun_of rfl ?_)
 refine gx hA 2 ?_
 refine gs (gr (rn hA 2 ?_))
 obtain ⟨b6, c9, hc2⟩ : ∃ (b6 : Bool), b6 = (kindIs 1 v (⟨a2, a0, a7, a3, a1, a4, a6, a5⟩ : GRec)) ∧ Real Tryz.prog 169 [.agg [.ii a2, .ii a0, .ii a7, .ii a3, .ii a1, .str a4, .str a6, .str a5], .ii 1, .ii v] (.bool b6) := ⟨_, rfl, by exact r_impl_about A hA (⟨a2, a0, a7, a3, a1, a4, a6, a5⟩ : GRec) 1 v ⟩
 refine ops_callV rfl rfl (by cbv) (by cbv) hc2 (.inr rfl) (by cbv) ?_
 refine rz hA 1 ?_
 refine go_ret ⟨_, by cbv, ?_⟩
 show _ = (PV.bool b6)
 refine congrArg PV.bool ?_
 subst c9
 subst hA
 simp [kindIs, std, Bool.beq_eq_decide_eq, ieq_dec, ]
theorem r_impl_bySeq (A : Alg) (hA : A = std) (a : GItem) (b : GItem)  : Real Tryz.prog 170 [.agg (eItem a), .agg (eItem b)] (.bool (bySeqB a b)) := by
 obtain ⟨c7, ⟨c4, b0, c6, a9, b2, b8, b4, b7⟩⟩ := a
 obtain ⟨c8, ⟨c0, b3, c5, a8, b1, b5, c2, b9⟩⟩ := b
 refine real_args (args' := [.agg [.ii c7, .ii c4, .ii b0, .ii c6, .ii a9, .ii b2, .str b8, .str b4, .str b7], .agg [.ii c8, .ii c0, .ii b3, .ii c5, .ii a8, .ii b1, .str b5, .str c2, .str b9]]) (by rfl) ?_
 refine real tyOk Tryz.func170 (by kernel_rfl) (afun_of rfl ?_)
 refine gx hA 3 ?_
 refine gx hA 6 ?_
 refine go_ret ⟨_, by cbv, ?_⟩
 show _ = (PV.bool (A.cmp .lss c7 c8))
 refine congrArg PV.bool ?_
 subst hA
 simp [bySeqB, std, Bool.beq_eq_decide_eq, ieq_dec, ]
theorem r_impl_byNext (A : Alg) (hA : A = std) (a : GItem) (b : GItem)  : Real Tryz.prog 172 [.agg (eItem a), .agg (eItem b)] (.bool (byNextB a b)) := by
 obtain ⟨c7, ⟨c4, b0, c6, a9, b2, b8, b4, b7⟩⟩ := a
 obtain ⟨c8, ⟨c0, b3, c5, a8, b1, b5, c2, b9⟩⟩ := b
 refine real_args (args' := [.agg [.ii c7, .ii c4, .ii b0, .ii c6, .ii a9, .ii b2, .str b8, .str b4, .str b7], .agg [.ii c8, .ii c0, .ii b3, .ii c5, .ii a8, .ii b1, .str b5, .str c2, .str b9]]) (by rfl) ?_
 refine real tyOk Tryz.func172 (by kernel_rfl) (afun_of rfl ?_)
 refine gx hA 3 ?_
 refine gs (gx hA 7 ?_)
 refine go_cond rfl (fun c1 => ?_) (fun c1 => ?_)
 ·
  have ec1 : a9 ≠ a8 := neq_t hA c1
  refine gx hA 8 ?_
  refine go_ret ⟨_, by cbv, ?_⟩
  show _ = (PV.bool (A.cmp .lss a9 a8))
  refine congrArg PV.bool ?_
  subst hA
  simp [byNextB, std, Bool.beq_eq_decide_eq, ieq_dec, ec1, ec1.symm]
 have ec1 : a9 = a8 := neq_f hA c1
 refine gk (gx hA 6 ?_)
 refine go_ret ⟨_, by cbv, ?_⟩
 show _ = (PV.bool (A.cmp .lss c7 c8))
 refine congrArg PV.bool ?_
 subst hA
 simp [byNextB, std, Bool.beq_eq_decide_eq, ieq_dec, ec1]
end Go.Av
