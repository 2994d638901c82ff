/- Walks: states and talks that are the same. -/
import Derived.Test.YtjbokkoiicoahaaGreatJB
namespace Go.Av
open Go Go.Proofs
set_option maxRecDepth 100000
set_option maxHeartbeats 4000000
set_option linter.unusedVariables false
set_option linter.unusedSimpArgs false
def mq (x y : GMail) : Bool := pvEqL (eMail x) (eMail y)
def S123_1 (p0 : RR) (p1 : RR) (p2 : Int) (p3 : Int) : St := { sl := [.sl 3 p0, .sl 3 p1, .bad, .bad, .bad, .bad, .bad, .bad, .bad, .bad, .bad, .bad, .ii p2, .ii p3, .bad, .bad, .bad, .bad, .bad, .bad, .bad, .bad, .bad, .bad, .bad, .bad], bl := [] }
theorem r_Equal_Mail (A : Alg) (hA : A = std) (xs : List GMail) (ys : List GMail) (hx : (List.length xs : Int) ≤ 4611686018427387904)  : Real Tryz.prog 123 [.sl 3 (List.map eMail xs), .sl 3 (List.map eMail ys)] (.bool (eqFunc mq xs ys)) := by
 obtain ⟨a0, f7⟩ := nm (xs.map eMail)
 have r5 := rlen_map hA f7
 obtain ⟨a6, f6⟩ := nm (ys.map eMail)
 have r6 := rlen_map hA f6
 refine real_args (args' := [.sl 3 a0, .sl 3 a6]) (by subst f7 f6; rfl) ?_
 refine real tyOk Tryz.func123 (by kernel_rfl) (afun_of rfl ?_)
 refine gx hA 1 ?_
 refine gs (gx hA 5 ?_)
 refine go_cond rfl (fun c1 => ?_) (fun c1 => ?_)
 ·
  have ec1 : (A.rlen a0) ≠ (A.rlen a6) := neq_t hA c1
  refine gx hA 1 ?_
  refine go_ret ⟨_, by cbv, ?_⟩
  show _ = (PV.bool false)
  refine congrArg PV.bool ?_
  exact eqFunc_len _ _ _ (by omega)
 have ec1 : (A.rlen a0) = (A.rlen a6) := neq_f hA c1
 refine gk (gs (gx hA 3 ?_))
 refine go_block ?_
 refine go_loopE (fun σ m => ∃ (i : Nat) (n : Int), σ = (S123_1 a0 a6 (A.rlen a0) n) ∧ (n = (i : Int) ∧ i ≤ List.length xs ∧ eqFunc mq xs ys = eqFunc mq (xs.drop i) (ys.drop i)) ∧ m = List.length xs - i) _ [] [0, 1, 12, 13] [] (S123_1 a0 a6 (A.rlen a0) 0) rfl (by cbv) ⟨0, 0, rfl, ?_, rfl⟩ (fun σ m hI => ?_)
 ·
  exact ⟨rfl, Nat.zero_le _, rfl⟩
 obtain ⟨i, n, rfl, ⟨hn, hi, hE⟩, rfl⟩ := hI
 refine gx hA 1 ?_
 refine gs ?_
 refine go_cond rfl (fun c2 => ?_) (fun c2 => ?_)
 ·
  have ec2 : n < (A.rlen a0) := lss_t hA c2
  refine gk (gs ?_)
  refine go_block ?_
  refine gx hA 2 ?_
  refine gs ?_
  refine go_draw [0, 1, 2, 3, 4, 5, 6, 7, 8] (by cbv) ?_
  refine dn_ hA 2 ?_
  have l3 : (0 : Int) ≤ n := by
   omega
  have m5 : (Int.toNat n) < List.length xs := by
   omega
  obtain ⟨x3, hx3⟩ : ∃ x, (xs)[(Int.toNat n)]? = some x := ⟨_, List.getElem?_eq_getElem m5⟩
  have s5 := List.mem_of_getElem? hx3
  obtain ⟨l0, j6, k6⟩ := x3
  have l2 : a0[(Int.toNat n)]? = some [.ii l0, .ii j6, .str k6] := by
   exact map_at eMail f7 hx3
  have a4 := hx3
  rw [hn] at a4
  have a4 : (xs)[i]? = some (⟨l0, j6, k6⟩ : GMail) := a4
  refine dops_step rfl rfl rfl (idx_sl rfl rfl rfl rfl rfl l3 rfl l2) ?_
  refine dn_ hA 3 ?_
  have l5 : (0 : Int) ≤ n := by
   omega
  have m4 : (Int.toNat n) < List.length ys := by
   omega
  obtain ⟨x4, hx4⟩ : ∃ x, (ys)[(Int.toNat n)]? = some x := ⟨_, List.getElem?_eq_getElem m4⟩
  have v3 := List.mem_of_getElem? hx4
  obtain ⟨l1, j5, k5⟩ := x4
  have l4 : a6[(Int.toNat n)]? = some [.ii l1, .ii j5, .str k5] := by
   exact map_at eMail f6 hx4
  have a3 := hx4
  rw [hn] at a3
  have a3 : (ys)[i]? = some (⟨l1, j5, k5⟩ : GMail) := a3
  refine dops_step rfl rfl rfl (idx_sl rfl rfl rfl rfl rfl l5 rfl l4) ?_
  refine dz hA 2 ?_
  refine go_cond rfl (fun c5 => ?_) (fun c5 => ?_)
  ·
   have c6 : (A.aeq [.ii l0, .ii j6, .str k6] [.ii l1, .ii j5, .str k5]) = false := bnot_t hA c5
   have ec6 : ([.ii l0, .ii j6, .str k6] : List PV) ≠ [.ii l1, .ii j5, .str k5] := aeq_f hA (by rfl) c6
   refine gx hA 1 ?_
   refine go_ret ⟨_, by cbv, ?_⟩
   show _ = (PV.bool false)
   refine congrArg PV.bool ?_
   rw [hE, eqFunc_at mq a4 a3]
   rw [show mq (⟨l0, j6, k6⟩ : GMail) (⟨l1, j5, k5⟩ : GMail) = false from Bool.eq_false_iff.2 fun h => ec6 ((pvEqL_iff (by rfl) (by rfl)).1 h), Bool.false_and]
  have c7 : (A.aeq [.ii l0, .ii j6, .str k6] [.ii l1, .ii j5, .str k5]) = true := bnot_f hA c5
  have ec7 : ([.ii l0, .ii j6, .str k6] : List PV) = [.ii l1, .ii j5, .str k5] := aeq_t hA (by rfl) c7
  refine gk (gy hA 2 ?_)
  refine ⟨(S123_1 a0 a6 (A.rlen a0) (A.num .add .i64 n 1)), List.length xs - (i + 1), ?_, by cbv, i + 1, (A.num .add .i64 n 1), rfl, ?_, rfl⟩
  ·
   omega
  refine ⟨by rw [add_i64 hA (by omega) (by omega)]; omega, by omega, ?_⟩
  rw [hE, eqFunc_at mq a4 a3]
  rw [show mq (⟨l0, j6, k6⟩ : GMail) (⟨l1, j5, k5⟩ : GMail) = true from (pvEqL_iff (by rfl) (by rfl)).2 ec7, Bool.true_and]
 have ec2 : (A.rlen a0) ≤ n := lss_f hA c2
 refine go_exit ⟨fun _ => ?_, fun h => absurd rfl h⟩
 refine gx hA 1 ?_
 refine go_ret ⟨_, by cbv, ?_⟩
 show _ = (PV.bool true)
 refine congrArg PV.bool ?_
 rw [hE]; exact eqFunc_end _ (by omega) (by omega)
def sbx (a b : GBox) : Bool := decide (a.Valid = b.Valid ∧ a.User = b.User ∧ a.Name = b.Name ∧ a.Next = b.Next) && eqFunc mq a.Mails b.Mails
theorem r_impl_sameBox (A : Alg) (hA : A = std) (a : GBox) (b : GBox) (hx : (List.length a.Mails : Int) ≤ 4611686018427387904) : Real Tryz.prog 84 [.agg (eBox a), .agg (eBox b)] (.bool (sbx a b)) := by
 obtain ⟨o9, u0, t4, t1, n1⟩ := a
 obtain ⟨q4, m6⟩ := nm (n1.map eMail)
 have y3 := rlen_map hA m6
 obtain ⟨o6, t2, t7, r7, o8⟩ := b
 obtain ⟨q5, m7⟩ := nm (o8.map eMail)
 have x8 := rlen_map hA m7
 refine real_args (args' := [.agg [.ii o9, .str u0, .str t4, .ii t1, .sl 3 q4], .agg [.ii o6, .str t2, .str t7, .ii r7, .sl 3 q5]]) (by subst m6 m7; rfl) ?_
 have hx : (List.length n1 : Int) ≤ 4611686018427387904 := hx
 refine real tyOk Tryz.func84 (by kernel_rfl) (afun_of rfl ?_)
 refine gx hA 3 ?_
 refine gs (gr (rn hA 6 ?_))
 refine ops_split 10 rfl (fun c1 => ?_) (fun c1 => ?_)
 ·
  have ec1 : o9 = o6 := eql_t hA c1
  refine rn hA 7 ?_
  refine ops_split 17 rfl (fun c2 => ?_) (fun c2 => ?_)
  ·
   have ec2 : u0 = t2 := seql_t hA c2
   refine rn hA 7 ?_
   refine ops_split 24 rfl (fun c3 => ?_) (fun c3 => ?_)
   ·
    have ec3 : t4 = t7 := seql_t hA c3
    refine rn hA 7 ?_
    refine ops_split 31 rfl (fun c4 => ?_) (fun c4 => ?_)
    ·
     have ec4 : t1 = r7 := eql_t hA c4
     refine rn hA 4 ?_
     obtain ⟨r4, x7, hc6⟩ : ∃ (r4 : Bool), r4 = (eqFunc mq n1 o8) ∧ Real Tryz.prog 123 [.sl 3 q4, .sl 3 q5] (.bool r4) := ⟨_, rfl, by subst m6 m7; exact r_Equal_Mail A hA n1 o8 (by omega)⟩
     refine ops_callG rfl rfl rfl rfl (by cbv) (by cbv) hc6 (.inr rfl) (by cbv) ?_
     refine rz hA 2 ?_
     refine go_ret ⟨_, by cbv, ?_⟩
     show _ = (PV.bool r4)
     refine congrArg PV.bool ?_
     simp [sbx, ec1, ec2, ec3, ec4, ← x7]
    have ec4 : t1 ≠ r7 := eql_f hA c4
    refine rz hA 7 ?_
    refine go_ret ⟨_, by cbv, ?_⟩
    show _ = (PV.bool false)
    refine congrArg PV.bool ?_
    simp [sbx, ec1, ec2, ec3, ec4]
   have ec3 : t4 ≠ t7 := seql_f hA c3
   refine rz hA 14 ?_
   refine go_ret ⟨_, by cbv, ?_⟩
   show _ = (PV.bool false)
   refine congrArg PV.bool ?_
   simp [sbx, ec1, ec2, ec3]
  have ec2 : u0 ≠ t2 := seql_f hA c2
  refine rz hA 21 ?_
  refine go_ret ⟨_, by cbv, ?_⟩
  show _ = (PV.bool false)
  refine congrArg PV.bool ?_
  simp [sbx, ec1, ec2]
 have ec1 : o9 ≠ o6 := eql_f hA c1
 refine rz hA 28 ?_
 refine go_ret ⟨_, by cbv, ?_⟩
 show _ = (PV.bool false)
 refine congrArg PV.bool ?_
 simp [sbx, ec1]
def S83_1 (p0 : RR) (p1 : RR) (p2 : Int) (p3 : Int) : St := { sl := [.bad, .sl 5 p0, .fn 84 [], .bad, .bad, .bad, .bad, .bad, .bad, .bad, .bad, .bad, .bad, .bad, .bad, .sl 5 p1, .ii p2, .ii p3, .bad, .bad, .bad, .bad, .bad, .bad, .bad, .bad, .bad, .bad, .bad, .bad, .bad, .bad], bl := [] }
theorem r_EqualFunc_Box (A : Alg) (hA : A = std) (xs : List GBox) (ys : List GBox) (hx : (List.length xs : Int) ≤ 4611686018427387904) (hm : ∀ x ∈ xs, (List.length x.Mails : Int) ≤ 4611686018427387904) : Real Tryz.prog 83 [.sl 5 (List.map eBox xs), .sl 5 (List.map eBox ys), .fn 84 []] (.bool (eqFunc sbx xs ys)) := by
 obtain ⟨a0, f7⟩ := nm (xs.map eBox)
 have r5 := rlen_map hA f7
 obtain ⟨a6, f6⟩ := nm (ys.map eBox)
 have r6 := rlen_map hA f6
 refine real_args (args' := [.sl 5 a0, .sl 5 a6, .fn 84 []]) (by subst f7 f6; rfl) ?_
 refine real tyOk Tryz.func83 (by kernel_rfl) (afun_of rfl ?_)
 refine gx hA 1 ?_
 refine gs (gx hA 5 ?_)
 refine go_cond rfl (fun c1 => ?_) (fun c1 => ?_)
 ·
  have ec1 : (A.rlen a0) ≠ (A.rlen a6) := neq_t hA c1
  refine gx hA 1 ?_
  refine go_ret ⟨_, by cbv, ?_⟩
  show _ = (PV.bool false)
  refine congrArg PV.bool ?_
  exact eqFunc_len _ _ _ (by omega)
 have ec1 : (A.rlen a0) = (A.rlen a6) := neq_f hA c1
 refine gk (gs (gx hA 3 ?_))
 refine go_block ?_
 refine go_loopE (fun σ m => ∃ (i : Nat) (n : Int), σ = (S83_1 a6 a0 (A.rlen a0) n) ∧ (n = (i : Int) ∧ i ≤ List.length xs ∧ eqFunc sbx xs ys = eqFunc sbx (xs.drop i) (ys.drop i)) ∧ m = List.length xs - i) _ [] [1, 2, 15, 16, 17] [] (S83_1 a6 a0 (A.rlen a0) 0) rfl (by cbv) ⟨0, 0, rfl, ?_, rfl⟩ (fun σ m hI => ?_)
 ·
  exact ⟨rfl, Nat.zero_le _, rfl⟩
 obtain ⟨i, n, rfl, ⟨hn, hi, hE⟩, rfl⟩ := hI
 refine gx hA 1 ?_
 refine gs ?_
 refine go_cond rfl (fun c2 => ?_) (fun c2 => ?_)
 ·
  have ec2 : n < (A.rlen a0) := lss_t hA c2
  refine gk (gs ?_)
  refine go_block ?_
  refine gs (gr (rn hA 1 ?_))
  have l3 : (0 : Int) ≤ n := by
   omega
  have m5 : (Int.toNat n) < List.length xs := by
   omega
  obtain ⟨x3, hx3⟩ : ∃ x, (xs)[(Int.toNat n)]? = some x := ⟨_, List.getElem?_eq_getElem m5⟩
  have s5 := List.mem_of_getElem? hx3
  obtain ⟨e6, b8, b6, b7, a7⟩ := x3
  obtain ⟨a1, g8⟩ := nm (a7.map eMail)
  have u6 := rlen_map hA g8
  have l2 : a0[(Int.toNat n)]? = some [.ii e6, .str b8, .str b6, .ii b7, .sl 3 a1] := by
   subst g8; exact map_at eBox f7 hx3
  have a4 := hx3
  rw [hn] at a4
  have a4 : (xs)[i]? = some (⟨e6, b8, b6, b7, a7⟩ : GBox) := a4
  refine ops_step rfl rfl (idx_sl rfl rfl rfl rfl rfl l3 rfl l2) ?_
  refine rz hA 4 ?_
  refine gs (gr (rn hA 2 ?_))
  have l5 : (0 : Int) ≤ n := by
   omega
  have m4 : (Int.toNat n) < List.length ys := by
   omega
  obtain ⟨x4, hx4⟩ : ∃ x, (ys)[(Int.toNat n)]? = some x := ⟨_, List.getElem?_eq_getElem m4⟩
  have v3 := List.mem_of_getElem? hx4
  obtain ⟨e5, b4, d0, b9, f1⟩ := x4
  obtain ⟨a2, g6⟩ := nm (f1.map eMail)
  have u2 := rlen_map hA g6
  have l4 : a6[(Int.toNat n)]? = some [.ii e5, .str b4, .str d0, .ii b9, .sl 3 a2] := by
   subst g6; exact map_at eBox f6 hx4
  have a3 := hx4
  rw [hn] at a3
  have a3 : (ys)[i]? = some (⟨e5, b4, d0, b9, f1⟩ : GBox) := a3
  refine ops_step rfl rfl (idx_sl rfl rfl rfl rfl rfl l5 rfl l4) ?_
  refine rz hA 3 ?_
  refine gs (gr (rn hA 3 ?_))
  obtain ⟨i5, n0, hc6⟩ : ∃ (i5 : Bool), i5 = (sbx (⟨e6, b8, b6, b7, a7⟩ : GBox) (⟨e5, b4, d0, b9, f1⟩ : GBox)) ∧ Real Tryz.prog 84 [.agg [.ii e6, .str b8, .str b6, .ii b7, .sl 3 a1], .agg [.ii e5, .str b4, .str d0, .ii b9, .sl 3 a2]] (.bool i5) := ⟨_, rfl, by subst g8 g6; exact r_impl_sameBox A hA (⟨e6, b8, b6, b7, a7⟩ : GBox) (⟨e5, b4, d0, b9, f1⟩ : GBox) (hm _ (by assumption))⟩
  refine ops_callV rfl rfl (by cbv) (by cbv) hc6 (.inr rfl) (by cbv) ?_
  refine rz hA 1 ?_
  refine go_cond rfl (fun c7 => ?_) (fun c7 => ?_)
  ·
   have c8 : i5 = false := bnot_t hA c7
   refine gx hA 1 ?_
   refine go_ret ⟨_, by cbv, ?_⟩
   show _ = (PV.bool false)
   refine congrArg PV.bool ?_
   rw [hE, eqFunc_at sbx a4 a3]
   rw [← n0]; simp [show i5 = false from c8]
  have c9 : i5 = true := bnot_f hA c7
  refine gk (gy hA 2 ?_)
  refine ⟨(S83_1 a6 a0 (A.rlen a0) (A.num .add .i64 n 1)), List.length xs - (i + 1), ?_, by cbv, i + 1, (A.num .add .i64 n 1), rfl, ?_, rfl⟩
  ·
   omega
  refine ⟨by rw [add_i64 hA (by omega) (by omega)]; omega, by omega, ?_⟩
  rw [hE, eqFunc_at sbx a4 a3]
  rw [← n0]; simp [show i5 = true from c9]
 have ec2 : (A.rlen a0) ≤ n := lss_f hA c2
 refine go_exit ⟨fun _ => ?_, fun h => absurd rfl h⟩
 refine gx hA 1 ?_
 refine go_ret ⟨_, by cbv, ?_⟩
 show _ = (PV.bool true)
 refine congrArg PV.bool ?_
 rw [hE]; exact eqFunc_end _ (by omega) (by omega)
theorem r_impl_SameState (A : Alg) (hA : A = std) (a : GState) (b : GState) (hx : (List.length a.Boxes : Int) ≤ 4611686018427387904) (hm : ∀ x ∈ a.Boxes, (List.length x.Mails : Int) ≤ 4611686018427387904) : Real Tryz.prog 46 [.agg (eState a), .agg (eState b)] (.bool (eqFunc sbx a.Boxes b.Boxes)) := by
 obtain ⟨b5⟩ := a
 obtain ⟨a5, i3⟩ := nm (b5.map eBox)
 have v6 := rlen_map hA i3
 obtain ⟨i0⟩ := b
 obtain ⟨b1, i4⟩ := nm (i0.map eBox)
 have v7 := rlen_map hA i4
 refine real_args (args' := [.agg [.sl 5 a5], .agg [.sl 5 b1]]) (by subst i3 i4; rfl) ?_
 refine real tyOk Tryz.func46 (by kernel_rfl) (afun_of rfl ?_)
 refine gx hA 3 ?_
 refine gs (gr (rn hA 4 ?_))
 obtain ⟨u9, y0, hc2⟩ : ∃ (u9 : Bool), u9 = (eqFunc sbx b5 i0) ∧ Real Tryz.prog 83 [.sl 5 a5, .sl 5 b1, .fn 84 []] (.bool u9) := ⟨_, rfl, by subst i3 i4; exact r_EqualFunc_Box A hA b5 i0 hx hm⟩
 refine ops_callV rfl rfl (by cbv) (by cbv) hc2 (.inr rfl) (by cbv) ?_
 refine rz hA 1 ?_
 refine go_ret ⟨_, by cbv, ?_⟩
 show _ = (PV.bool u9)
 exact congrArg PV.bool y0.symm
def S43_1 (p0 : Int) (p1 : RR) (p2 : RR) : St := { sl := [.bad, .bad, .pt 2 0 0, .pt 3 0 0, .bad, .ii p0, .bad, .bad, .bad, .bad, .bad, .bad, .bad, .bad, .bad, .bad, .bad, .bad, .bad, .bad, .bad, .bad, .bad, .bad, .bad, .bad, .bad, .bad, .bad, .bad, .bad, .bad, .bad, .bad, .bad, .bad, .bad, .bad, .bad, .bad, .bad, .bad, .bad, .bad, .bad, .bad, .bad, .bad, .bad, .bad, .bad, .bad, .bad, .bad, .bad, .bad, .bad, .bad, .bad, .bad, .bad, .bad, .bad, .bad, .bad, .bad, .bad, .bad, .bad, .bad, .bad, .bad, .bad, .bad, .bad, .bad, .bad, .bad, .bad, .bad, .bad, .bad, .bad, .bad, .bad, .bad], bl := [(3, ⟨.var, 1, [[.sl 5 p1]]⟩), (2, ⟨.var, 1, [[.sl 5 p2]]⟩)] }
def S43_2 (p0 : Int) (p1 : Int) (p2 : ByteArray) (p3 : ByteArray) (p4 : Bool) (p5 : ByteArray) (p6 : ByteArray) (p7 : Bool) (p8 : Int) (p9 : Int) (p10 : Bool) (p11 : RR) (p12 : Int) (p13 : RR) (p14 : Int) (p15 : Bool) (p16 : Int) (p17 : Int) (p18 : RR) (p19 : RR) : St := { sl := [.bad, .bad, .pt 2 0 0, .pt 3 0 0, .bad, .ii p0, .pt 6 0 0, .pt 7 0 0, .ii p1, .bad, .bad, .bad, .bad, .bad, .bad, .bad, .bad, .bad, .bad, .bad, .bad, .bad, .bad, .bad, .bad, .bad, .bad, .bad, .bad, .bad, .bad, .bad, .bad, .bad, .bad, .bad, .bad, .bad, .bad, .pt 6 0 1, .str p2, .pt 7 0 1, .str p3, .bool p4, .bad, .bad, .pt 6 0 2, .str p5, .pt 7 0 2, .str p6, .bool p7, .bad, .bad, .pt 6 0 3, .ii p8, .pt 7 0 3, .ii p9, .bool p10, .bad, .bad, .pt 6 0 4, .sl 3 p11, .ii p12, .pt 7 0 4, .sl 3 p13, .ii p14, .bool p15, .bad, .bad, .bad, .bad, .bad, .bad, .bad, .bad, .bad, .bad, .bad, .bad, .bad, .bad, .bad, .bad, .bad, .bad, .bad], bl := [(7, ⟨.var, 5, [[.ii p16, .str p3, .str p6, .ii p9, .sl 3 p13]]⟩), (6, ⟨.var, 5, [[.ii p17, .str p2, .str p5, .ii p8, .sl 3 p11]]⟩), (3, ⟨.var, 1, [[.sl 5 p18]]⟩), (2, ⟨.var, 1, [[.sl 5 p19]]⟩)] }
theorem r_spec_SameState (A : Alg) (hA : A = std) (a : GState) (b : GState) (hx : (List.length a.Boxes : Int) ≤ 4611686018427387904) (hm : ∀ x ∈ a.Boxes, (List.length x.Mails : Int) ≤ 4611686018427387904) : Real Tryz.prog 43 [.agg (eState a), .agg (eState b)] (.bool (eqFunc sbx a.Boxes b.Boxes)) := by
 obtain ⟨b5⟩ := a
 obtain ⟨a5, i3⟩ := nm (b5.map eBox)
 have v6 := rlen_map hA i3
 obtain ⟨i0⟩ := b
 obtain ⟨b1, i4⟩ := nm (i0.map eBox)
 have v7 := rlen_map hA i4
 refine real_args (args' := [.agg [.sl 5 a5], .agg [.sl 5 b1]]) (by subst i3 i4; rfl) ?_
 have hx : (List.length b5 : Int) ≤ 4611686018427387904 := hx
 have hm : ∀ x ∈ b5, (List.length x.Mails : Int) ≤ 4611686018427387904 := hm
 refine real tyOk Tryz.func43 (by kernel_rfl) (afun_of rfl ?_)
 refine gx hA 3 ?_
 refine gs (gx hA 7 ?_)
 refine go_cond rfl (fun c1 => ?_) (fun c1 => ?_)
 ·
  have ec1 : (A.rlen a5) ≠ (A.rlen b1) := neq_t hA c1
  refine gx hA 1 ?_
  refine go_ret ⟨_, by cbv, ?_⟩
  show _ = (PV.bool false)
  refine congrArg PV.bool ?_
  exact eqFunc_len _ _ _ (by show List.length b5 ≠ List.length i0; omega)
 have ec1 : (A.rlen a5) = (A.rlen b1) := neq_f hA c1
 refine gk (gs (gx hA 1 ?_))
 refine go_block ?_
 refine go_loopE (fun σ m => ∃ (i : Nat) (n : Int), σ = (S43_1 n b1 a5) ∧ (n = (i : Int) ∧ i ≤ List.length b5 ∧ eqFunc sbx b5 i0 = eqFunc sbx (b5.drop i) (i0.drop i)) ∧ m = List.length b5 - i) _ [] [2, 3, 5] [3, 2] (S43_1 0 b1 a5) rfl (by cbv) ⟨0, 0, rfl, ?_, rfl⟩ (fun σ m hI => ?_)
 ·
  exact ⟨rfl, Nat.zero_le _, rfl⟩
 obtain ⟨i, n, rfl, ⟨hn, hi, hE⟩, rfl⟩ := hI
 refine gs (gx hA 5 ?_)
 refine go_cond rfl (fun c2 => ?_) (fun c2 => ?_)
 ·
  have ec2 : n < (A.rlen a5) := lss_t hA c2
  refine gk (gs ?_)
  refine go_block ?_
  refine gs (gr (rn hA 3 ?_))
  have l3 : (0 : Int) ≤ n := by
   omega
  have m5 : (Int.toNat n) < List.length b5 := by
   omega
  obtain ⟨x3, hx3⟩ : ∃ x, (b5)[(Int.toNat n)]? = some x := ⟨_, List.getElem?_eq_getElem m5⟩
  have s5 := List.mem_of_getElem? hx3
  obtain ⟨e6, b8, b6, b7, a7⟩ := x3
  obtain ⟨a1, g8⟩ := nm (a7.map eMail)
  have u6 := rlen_map hA g8
  have l2 : a5[(Int.toNat n)]? = some [.ii e6, .str b8, .str b6, .ii b7, .sl 3 a1] := by
   subst g8; exact map_at eBox i3 hx3
  have a4 := hx3
  rw [hn] at a4
  have a4 : (b5)[i]? = some (⟨e6, b8, b6, b7, a7⟩ : GBox) := a4
  refine ops_step rfl rfl (idx_sl rfl rfl rfl rfl rfl l3 rfl l2) ?_
  refine rz hA 3 ?_
  refine gs (gr (rn hA 3 ?_))
  have l5 : (0 : Int) ≤ n := by
   omega
  have m4 : (Int.toNat n) < List.length i0 := by
   omega
  obtain ⟨x4, hx4⟩ : ∃ x, (i0)[(Int.toNat n)]? = some x := ⟨_, List.getElem?_eq_getElem m4⟩
  have v3 := List.mem_of_getElem? hx4
  obtain ⟨e5, b4, d0, b9, f1⟩ := x4
  obtain ⟨a2, g6⟩ := nm (f1.map eMail)
  have u2 := rlen_map hA g6
  have l4 : b1[(Int.toNat n)]? = some [.ii e5, .str b4, .str d0, .ii b9, .sl 3 a2] := by
   subst g6; exact map_at eBox i4 hx4
  have a3 := hx4
  rw [hn] at a3
  have a3 : (i0)[i]? = some (⟨e5, b4, d0, b9, f1⟩ : GBox) := a3
  refine ops_step rfl rfl (idx_sl rfl rfl rfl rfl rfl l5 rfl l4) ?_
  refine rz hA 3 ?_
  refine gs (gs (gr (rn hA 6 ?_)))
  refine ops_split 38 rfl (fun c5 => ?_) (fun c5 => ?_)
  ·
   have ec5 : e6 ≠ e5 := neq_t hA c5
   refine rz hA 29 ?_
   refine go_cond rfl (fun c6 => ?_) (fun c6 => ?_)
   ·
    refine gx hA 1 ?_
    refine go_ret ⟨_, by cbv, ?_⟩
    show _ = (PV.bool false)
    refine congrArg PV.bool ?_
    rw [hE, eqFunc_at sbx a4 a3]
    simp only [sbx]
    simp [ec5]
   exact no_f c6 (show true = true from by rfl)
  have ec5 : e6 = e5 := neq_f hA c5
  refine rn hA 7 ?_
  refine ops_split 45 rfl (fun c7 => ?_) (fun c7 => ?_)
  ·
   have ec7 : b8 ≠ b4 := sneq_t hA c7
   refine rz hA 22 ?_
   refine go_cond rfl (fun c8 => ?_) (fun c8 => ?_)
   ·
    refine gx hA 1 ?_
    refine go_ret ⟨_, by cbv, ?_⟩
    show _ = (PV.bool false)
    refine congrArg PV.bool ?_
    rw [hE, eqFunc_at sbx a4 a3]
    simp only [sbx]
    simp [ec5, ec7]
   exact no_f c8 (show true = true from by rfl)
  have ec7 : b8 = b4 := sneq_f hA c7
  refine rn hA 7 ?_
  refine ops_split 52 rfl (fun c9 => ?_) (fun c9 => ?_)
  ·
   have ec9 : b6 ≠ d0 := sneq_t hA c9
   refine rz hA 15 ?_
   refine go_cond rfl (fun c10 => ?_) (fun c10 => ?_)
   ·
    refine gx hA 1 ?_
    refine go_ret ⟨_, by cbv, ?_⟩
    show _ = (PV.bool false)
    refine congrArg PV.bool ?_
    rw [hE, eqFunc_at sbx a4 a3]
    simp only [sbx]
    simp [ec5, ec7, ec9]
   exact no_f c10 (show true = true from by rfl)
  have ec9 : b6 = d0 := sneq_f hA c9
  refine rn hA 7 ?_
  refine ops_split 59 rfl (fun c11 => ?_) (fun c11 => ?_)
  ·
   have v2 : b7 ≠ b9 := neq_t hA c11
   refine rz hA 8 ?_
   refine go_cond rfl (fun c12 => ?_) (fun c12 => ?_)
   ·
    refine gx hA 1 ?_
    refine go_ret ⟨_, by cbv, ?_⟩
    show _ = (PV.bool false)
    refine congrArg PV.bool ?_
    rw [hE, eqFunc_at sbx a4 a3]
    simp only [sbx]
    simp [ec5, ec7, ec9, v2]
   exact no_f c12 (show true = true from by rfl)
  have v2 : b7 = b9 := neq_f hA c11
  refine rz hA 8 ?_
  refine go_cond rfl (fun c13 => ?_) (fun c13 => ?_)
  ·
   have r9 : (A.rlen a1) ≠ (A.rlen a2) := neq_t hA c13
   refine gx hA 1 ?_
   refine go_ret ⟨_, by cbv, ?_⟩
   show _ = (PV.bool false)
   refine congrArg PV.bool ?_
   rw [hE, eqFunc_at sbx a4 a3]
   simp only [sbx]
   rw [eqFunc_len mq _ _ (by omega)]
   simp [ec5, ec7, ec9, v2, r9]
  have r9 : (A.rlen a1) = (A.rlen a2) := neq_f hA c13
  refine gk (gs ?_)
  have hxm := hm _ s5
  have hxm : (List.length a7 : Int) ≤ 4611686018427387904 := hxm
  refine gy hA 1 ?_
  refine go_block ?_
  refine go_loopE (fun σ m => ∃ (k : Nat) (n2 : Int), σ = (S43_2 n n2 b8 b4 (A.scmp .neq b8 b4) b6 d0 (A.scmp .neq b6 d0) b7 b9 (A.cmp .neq b7 b9) a1 (A.rlen a1) a2 (A.rlen a2) (A.cmp .neq (A.rlen a1) (A.rlen a2)) e5 e6 b1 a5) ∧ (n2 = (k : Int) ∧ k ≤ List.length a7 ∧ eqFunc mq a7 f1 = eqFunc mq (a7.drop k) (f1.drop k)) ∧ m = List.length a7 - k) _ [] [2, 3, 5, 6, 7, 8, 39, 40, 41, 42, 43, 46, 47, 48, 49, 50, 53, 54, 55, 56, 57, 60, 61, 62, 63, 64, 65, 66] [7, 6, 3, 2] (S43_2 n 0 b8 b4 (A.scmp .neq b8 b4) b6 d0 (A.scmp .neq b6 d0) b7 b9 (A.cmp .neq b7 b9) a1 (A.rlen a1) a2 (A.rlen a2) (A.cmp .neq (A.rlen a1) (A.rlen a2)) e5 e6 b1 a5) rfl (by cbv) ⟨0, 0, rfl, ?_, rfl⟩ (fun σ m hI => ?_)
  ·
   exact ⟨rfl, Nat.zero_le _, rfl⟩
  obtain ⟨k, n2, rfl, ⟨hk, hkl, hE2⟩, rfl⟩ := hI
  refine gs (gx hA 5 ?_)
  refine go_cond rfl (fun c14 => ?_) (fun c14 => ?_)
  ·
   have z1 : n2 < (A.rlen a1) := lss_t hA c14
   refine gk (gs ?_)
   refine go_block ?_
   refine gs ?_
   refine go_draw [0, 1, 2, 3, 4, 5, 6, 7, 8, 9, 10] (by cbv) ?_
   refine dn_ hA 3 ?_
   have y6 : (0 : Int) ≤ n2 := by
    omega
   have y1 : (Int.toNat n2) < List.length a7 := by
    omega
   obtain ⟨x15, w2⟩ : ∃ x, (a7)[(Int.toNat n2)]? = some x := ⟨_, List.getElem?_eq_getElem y1⟩
   have z3 := List.mem_of_getElem? w2
   obtain ⟨k4, i2, j4⟩ := x15
   have y7 : a1[(Int.toNat n2)]? = some [.ii k4, .ii i2, .str j4] := by
    exact map_at eMail g8 w2
   have o2 := w2
   rw [hk] at o2
   have o2 : (a7)[k]? = some (⟨k4, i2, j4⟩ : GMail) := o2
   refine dops_step rfl rfl rfl (idx_sl rfl rfl rfl rfl rfl y6 rfl y7) ?_
   refine dn_ hA 4 ?_
   have y5 : (0 : Int) ≤ n2 := by
    omega
   have x9 : (Int.toNat n2) < List.length f1 := by
    omega
   obtain ⟨x16, w6⟩ : ∃ x, (f1)[(Int.toNat n2)]? = some x := ⟨_, List.getElem?_eq_getElem x9⟩
   have z2 := List.mem_of_getElem? w6
   obtain ⟨k7, i1, j7⟩ := x16
   have y2 : a2[(Int.toNat n2)]? = some [.ii k7, .ii i1, .str j7] := by
    exact map_at eMail g6 w6
   have o0 := w6
   rw [hk] at o0
   have o0 : (f1)[k]? = some (⟨k7, i1, j7⟩ : GMail) := o0
   refine dops_step rfl rfl rfl (idx_sl rfl rfl rfl rfl rfl y5 rfl y2) ?_
   refine dz hA 2 ?_
   refine go_cond rfl (fun c17 => ?_) (fun c17 => ?_)
   ·
    have c18 : (A.aeq [.ii k4, .ii i2, .str j4] [.ii k7, .ii i1, .str j7]) = false := bnot_t hA c17
    have y8 : ([.ii k4, .ii i2, .str j4] : List PV) ≠ [.ii k7, .ii i1, .str j7] := aeq_f hA (by rfl) c18
    refine gx hA 1 ?_
    refine go_ret ⟨_, by cbv, ?_⟩
    show _ = (PV.bool false)
    refine congrArg PV.bool ?_
    rw [hE, eqFunc_at sbx a4 a3]
    simp only [sbx]
    rw [hE2, eqFunc_at mq o2 o0, show mq (⟨k4, i2, j4⟩ : GMail) (⟨k7, i1, j7⟩ : GMail) = false from Bool.eq_false_iff.2 fun h => y8 ((pvEqL_iff (by rfl) (by rfl)).1 h)]
    simp
   have c19 : (A.aeq [.ii k4, .ii i2, .str j4] [.ii k7, .ii i1, .str j7]) = true := bnot_f hA c17
   have z0 : ([.ii k4, .ii i2, .str j4] : List PV) = [.ii k7, .ii i1, .str j7] := aeq_t hA (by rfl) c19
   refine gk (gy hA 3 ?_)
   refine ⟨(S43_2 n (A.num .add .i64 n2 1) b8 b4 (A.scmp .neq b8 b4) b6 d0 (A.scmp .neq b6 d0) b7 b9 (A.cmp .neq b7 b9) a1 (A.rlen a1) a2 (A.rlen a2) (A.cmp .neq (A.rlen a1) (A.rlen a2)) e5 e6 b1 a5), List.length a7 - (k + 1), ?_, by cbv, k + 1, (A.num .add .i64 n2 1), rfl, ?_, rfl⟩
   ·
    omega
   refine ⟨by rw [add_i64 hA (by omega) (by omega)]; omega, by omega, ?_⟩
   rw [hE2, eqFunc_at mq o2 o0, show mq (⟨k4, i2, j4⟩ : GMail) (⟨k7, i1, j7⟩ : GMail) = true from (pvEqL_iff (by rfl) (by rfl)).2 z0, Bool.true_and]
  have z1 : (A.rlen a1) ≤ n2 := lss_f hA c14
  refine go_exit ⟨fun _ => ?_, fun h => absurd rfl h⟩
  refine gy hA 3 ?_
  refine ⟨(S43_1 (A.num .add .i64 n 1) b1 a5), List.length b5 - (i + 1), ?_, by cbv, i + 1, (A.num .add .i64 n 1), rfl, ?_, rfl⟩
  ·
   omega
  refine ⟨by rw [add_i64 hA (by omega) (by omega)]; omega, by omega, ?_⟩
  rw [hE, eqFunc_at sbx a4 a3]
  simp only [sbx]
  rw [hE2, eqFunc_end mq (by omega) (by omega)]
  simp [ec5, ec7, ec9, v2, r9]
 have ec2 : (A.rlen a5) ≤ n := lss_f hA c2
 refine go_exit ⟨fun _ => ?_, fun h => absurd rfl h⟩
 refine gx hA 1 ?_
 refine go_ret ⟨_, by cbv, ?_⟩
 show _ = (PV.bool true)
 refine congrArg PV.bool ?_
 rw [hE]; exact eqFunc_end _ (by omega) (by omega)
def stk (a b : GSession) : Bool := decide (a.Kind = b.Kind ∧ a.In = b.In ∧ a.Out = b.Out ∧ a.Over = b.Over)
def S44_1 (p0 : RR) (p1 : RR) (p2 : Int) : St := { sl := [.sl 17 p0, .sl 17 p1, .bad, .bad, .bad, .ii p2, .bad, .bad, .bad, .bad, .bad, .bad, .bad, .bad, .bad, .bad, .bad, .bad, .bad, .bad, .bad, .bad, .bad, .bad, .bad, .bad, .bad, .bad, .bad, .bad, .bad, .bad, .bad, .bad, .bad, .bad, .bad, .bad, .bad, .bad, .bad, .bad, .bad, .bad, .bad, .bad, .bad, .bad, .bad, .bad, .bad, .bad, .bad, .bad, .bad, .bad, .bad, .bad, .bad, .bad, .bad, .bad, .bad, .bad, .bad, .bad, .bad], bl := [] }
theorem r_spec_SameTalk (A : Alg) (hA : A = std) (xs : List GSession) (ys : List GSession) (hx : (List.length xs : Int) ≤ 4611686018427387904)  : Real Tryz.prog 44 [.sl 17 (List.map eSession xs), .sl 17 (List.map eSession ys)] (.bool (eqFunc stk xs ys)) := by
 obtain ⟨a0, f7⟩ := nm (xs.map eSession)
 have r5 := rlen_map hA f7
 obtain ⟨a6, f6⟩ := nm (ys.map eSession)
 have r6 := rlen_map hA f6
 refine real_args (args' := [.sl 17 a0, .sl 17 a6]) (by subst f7 f6; rfl) ?_
 refine real tyOk Tryz.func44 (by kernel_rfl) (afun_of rfl ?_)
 refine gx hA 1 ?_
 refine gs (gx hA 5 ?_)
 refine go_cond rfl (fun c1 => ?_) (fun c1 => ?_)
 ·
  have ec1 : (A.rlen a0) ≠ (A.rlen a6) := neq_t hA c1
  refine gx hA 1 ?_
  refine go_ret ⟨_, by cbv, ?_⟩
  show _ = (PV.bool false)
  refine congrArg PV.bool ?_
  exact eqFunc_len _ _ _ (by omega)
 have ec1 : (A.rlen a0) = (A.rlen a6) := neq_f hA c1
 refine gk (gs (gx hA 1 ?_))
 refine go_block ?_
 refine go_loopE (fun σ m => ∃ (i : Nat) (n : Int), σ = (S44_1 a0 a6 n) ∧ (n = (i : Int) ∧ i ≤ List.length xs ∧ eqFunc stk xs ys = eqFunc stk (xs.drop i) (ys.drop i)) ∧ m = List.length xs - i) _ [] [0, 1, 5] [] (S44_1 a0 a6 0) rfl (by cbv) ⟨0, 0, rfl, ?_, rfl⟩ (fun σ m hI => ?_)
 ·
  exact ⟨rfl, Nat.zero_le _, rfl⟩
 obtain ⟨i, n, rfl, ⟨hn, hi, hE⟩, rfl⟩ := hI
 refine gs (gx hA 4 ?_)
 refine go_cond rfl (fun c2 => ?_) (fun c2 => ?_)
 ·
  have ec2 : n < (A.rlen a0) := lss_t hA c2
  refine gk (gs ?_)
  refine go_block ?_
  refine gs ?_
  refine go_draw [0, 1, 2, 3, 4, 5, 6, 7, 8, 9, 10, 11, 12, 13, 14, 15, 16, 17, 18, 19, 20, 21, 22, 23, 24, 25, 26, 27, 28, 29, 30, 31, 32, 33, 34, 35, 36, 37, 38, 39, 40, 41, 42, 43, 44, 45, 46, 47, 48, 49] (by cbv) ?_
  refine dn_ hA 2 ?_
  have l3 : (0 : Int) ≤ n := by
   omega
  have m5 : (Int.toNat n) < List.length xs := by
   omega
  obtain ⟨x3, hx3⟩ : ∃ x, (xs)[(Int.toNat n)]? = some x := ⟨_, List.getElem?_eq_getElem m5⟩
  have s5 := List.mem_of_getElem? hx3
  obtain ⟨i9, k8, k1, g4, ⟨b2, d5, g7, f5⟩, ⟨a8, d8, e2, f2⟩, ⟨d4, e8, f8, d2, g2⟩⟩ := x3
  obtain ⟨k2, g0⟩ := nm (g7.map eString)
  have q3 := rlen_map hA g0
  obtain ⟨j1, e3⟩ := nm (f5.map eString)
  have n7 := rlen_map hA e3
  obtain ⟨i7, c0⟩ := nm (e2.map eMail)
  have n3 := rlen_map hA c0
  obtain ⟨j3, e4⟩ := nm (f2.map eBool)
  have n8 := rlen_map hA e4
  obtain ⟨j8, f0⟩ := nm (g2.map eInt)
  have n9 := rlen_map hA f0
  have l2 : a0[(Int.toNat n)]? = some [.ii i9, .str k8, .str k1, .bool g4, .ii b2, .str d5, .sl 1 k2, .sl 1 j1, .ii a8, .str d8, .sl 3 i7, .sl 1 j3, .ii d4, .str e8, .str f8, .ii d2, .sl 1 j8] := by
   subst g0 e3 c0 e4 f0; exact map_at eSession f7 hx3
  have a4 := hx3
  rw [hn] at a4
  have a4 : (xs)[i]? = some (⟨i9, k8, k1, g4, ⟨b2, d5, g7, f5⟩, ⟨a8, d8, e2, f2⟩, ⟨d4, e8, f8, d2, g2⟩⟩ : GSession) := a4
  refine dops_step rfl rfl rfl (idx_sl rfl rfl rfl rfl rfl l3 rfl l2) ?_
  refine dn_ hA 4 ?_
  have l5 : (0 : Int) ≤ n := by
   omega
  have m4 : (Int.toNat n) < List.length ys := by
   omega
  obtain ⟨x4, hx4⟩ : ∃ x, (ys)[(Int.toNat n)]? = some x := ⟨_, List.getElem?_eq_getElem m4⟩
  have v3 := List.mem_of_getElem? hx4
  obtain ⟨i8, k9, k0, g5, ⟨b0, d3, g9, f4⟩, ⟨a9, d1, e0, f3⟩, ⟨d7, e7, f9, d6, g3⟩⟩ := x4
  obtain ⟨k3, g1⟩ := nm (g9.map eString)
  have q1 := rlen_map hA g1
  obtain ⟨j0, d9⟩ := nm (f4.map eString)
  have n5 := rlen_map hA d9
  obtain ⟨i6, b3⟩ := nm (e0.map eMail)
  have n4 := rlen_map hA b3
  obtain ⟨j2, e1⟩ := nm (f3.map eBool)
  have n6 := rlen_map hA e1
  obtain ⟨j9, e9⟩ := nm (g3.map eInt)
  have o4 := rlen_map hA e9
  have l4 : a6[(Int.toNat n)]? = some [.ii i8, .str k9, .str k0, .bool g5, .ii b0, .str d3, .sl 1 k3, .sl 1 j0, .ii a9, .str d1, .sl 3 i6, .sl 1 j2, .ii d7, .str e7, .str f9, .ii d6, .sl 1 j9] := by
   subst g1 d9 b3 e1 e9; exact map_at eSession f6 hx4
  have a3 := hx4
  rw [hn] at a3
  have a3 : (ys)[i]? = some (⟨i8, k9, k0, g5, ⟨b0, d3, g9, f4⟩, ⟨a9, d1, e0, f3⟩, ⟨d7, e7, f9, d6, g3⟩⟩ : GSession) := a3
  refine dops_step rfl rfl rfl (idx_sl rfl rfl rfl rfl rfl l5 rfl l4) ?_
  refine dn_ hA 4 ?_
  refine dops_split 28 rfl (fun c5 => ?_) (fun c5 => ?_)
  ·
   have ec5 : i9 ≠ i8 := neq_t hA c5
   refine dz hA 38 ?_
   refine go_cond rfl (fun c6 => ?_) (fun c6 => ?_)
   ·
    refine gx hA 1 ?_
    refine go_ret ⟨_, by cbv, ?_⟩
    show _ = (PV.bool false)
    refine congrArg PV.bool ?_
    rw [hE, eqFunc_at stk a4 a3]
    simp [stk, ec2, ec5]
   exact no_f c6 (show true = true from by rfl)
  have ec5 : i9 = i8 := neq_f hA c5
  refine dn_ hA 2 ?_
  refine dops_stepG rfl rfl rfl rfl rfl (idx_sl rfl rfl rfl rfl rfl l3 rfl l2) ?_
  refine dn_ hA 4 ?_
  refine dops_stepG rfl rfl rfl rfl rfl (idx_sl rfl rfl rfl rfl rfl l5 rfl l4) ?_
  refine dn_ hA 5 ?_
  refine dops_split 41 rfl (fun c7 => ?_) (fun c7 => ?_)
  ·
   have ec7 : k8 ≠ k9 := sneq_t hA c7
   refine dz hA 25 ?_
   refine go_cond rfl (fun c8 => ?_) (fun c8 => ?_)
   ·
    refine gx hA 1 ?_
    refine go_ret ⟨_, by cbv, ?_⟩
    show _ = (PV.bool false)
    refine congrArg PV.bool ?_
    rw [hE, eqFunc_at stk a4 a3]
    simp [stk, ec2, ec5, ec7]
   exact no_f c8 (show true = true from by rfl)
  have ec7 : k8 = k9 := sneq_f hA c7
  refine dn_ hA 2 ?_
  refine dops_stepG rfl rfl rfl rfl rfl (idx_sl rfl rfl rfl rfl rfl l3 rfl l2) ?_
  refine dn_ hA 4 ?_
  refine dops_stepG rfl rfl rfl rfl rfl (idx_sl rfl rfl rfl rfl rfl l5 rfl l4) ?_
  refine dn_ hA 5 ?_
  refine dops_split 54 rfl (fun c9 => ?_) (fun c9 => ?_)
  ·
   have ec9 : k1 ≠ k0 := sneq_t hA c9
   refine dz hA 12 ?_
   refine go_cond rfl (fun c10 => ?_) (fun c10 => ?_)
   ·
    refine gx hA 1 ?_
    refine go_ret ⟨_, by cbv, ?_⟩
    show _ = (PV.bool false)
    refine congrArg PV.bool ?_
    rw [hE, eqFunc_at stk a4 a3]
    simp [stk, ec2, ec5, ec7, ec9]
   exact no_f c10 (show true = true from by rfl)
  have ec9 : k1 = k0 := sneq_f hA c9
  refine dn_ hA 2 ?_
  refine dops_stepG rfl rfl rfl rfl rfl (idx_sl rfl rfl rfl rfl rfl l3 rfl l2) ?_
  refine dn_ hA 4 ?_
  refine dops_stepG rfl rfl rfl rfl rfl (idx_sl rfl rfl rfl rfl rfl l5 rfl l4) ?_
  refine dz hA 4 ?_
  refine go_cond rfl (fun c11 => ?_) (fun c11 => ?_)
  ·
   have c12 : (A.beq g4 g5) = false := bnot_t hA c11
   have y9 : g4 ≠ g5 := beq_f hA c12
   refine gx hA 1 ?_
   refine go_ret ⟨_, by cbv, ?_⟩
   show _ = (PV.bool false)
   refine congrArg PV.bool ?_
   rw [hE, eqFunc_at stk a4 a3]
   simp [stk, ec2, ec5, ec7, ec9, y9]
  have c13 : (A.beq g4 g5) = true := bnot_f hA c11
  have r9 : g4 = g5 := beq_t hA c13
  refine gk (gy hA 3 ?_)
  refine ⟨(S44_1 a0 a6 (A.num .add .i64 n 1)), List.length xs - (i + 1), ?_, by cbv, i + 1, (A.num .add .i64 n 1), rfl, ?_, rfl⟩
  ·
   omega
  refine ⟨by rw [add_i64 hA (by omega) (by omega)]; omega, by omega, ?_⟩
  rw [hE, eqFunc_at stk a4 a3]
  simp [stk, ec2, ec5, ec7, ec9, r9]
 have ec2 : (A.rlen a0) ≤ n := lss_f hA c2
 refine go_exit ⟨fun _ => ?_, fun h => absurd rfl h⟩
 refine gx hA 1 ?_
 refine go_ret ⟨_, by cbv, ?_⟩
 show _ = (PV.bool true)
 refine congrArg PV.bool ?_
 rw [hE]; exact eqFunc_end _ (by omega) (by omega)
theorem r_impl_sameTalk (A : Alg) (hA : A = std) (a : GSession) (b : GSession)  : Real Tryz.prog 86 [.agg (eSession a), .agg (eSession b)] (.bool (stk a b)) := by
 obtain ⟨t3, w5, v8, w0, ⟨r1, t0, v5, s9⟩, ⟨q8, s4, r2, t8⟩, ⟨t6, u3, u7, t5, u1⟩⟩ := a
 obtain ⟨s8, m8⟩ := nm (v5.map eString)
 have x5 := rlen_map hA m8
 obtain ⟨o7, l9⟩ := nm (s9.map eString)
 have x0 := rlen_map hA l9
 obtain ⟨o1, l6⟩ := nm (r2.map eMail)
 have w3 := rlen_map hA l6
 obtain ⟨q0, m1⟩ := nm (t8.map eBool)
 have w8 := rlen_map hA m1
 obtain ⟨q9, m3⟩ := nm (u1.map eInt)
 have x2 := rlen_map hA m3
 obtain ⟨s1, w1, v0, v9, ⟨r3, t9, v4, s7⟩, ⟨r0, s6, q7, s3⟩, ⟨s0, u5, u8, r8, u4⟩⟩ := b
 obtain ⟨s2, m9⟩ := nm (v4.map eString)
 have x6 := rlen_map hA m9
 obtain ⟨q2, l8⟩ := nm (s7.map eString)
 have w9 := rlen_map hA l8
 obtain ⟨o3, l7⟩ := nm (q7.map eMail)
 have w4 := rlen_map hA l7
 obtain ⟨o5, m0⟩ := nm (s3.map eBool)
 have w7 := rlen_map hA m0
 obtain ⟨q6, m2⟩ := nm (u4.map eInt)
 have x1 := rlen_map hA m2
 refine real_args (args' := [.agg [.ii t3, .str w5, .str v8, .bool w0, .ii r1, .str t0, .sl 1 s8, .sl 1 o7, .ii q8, .str s4, .sl 3 o1, .sl 1 q0, .ii t6, .str u3, .str u7, .ii t5, .sl 1 q9], .agg [.ii s1, .str w1, .str v0, .bool v9, .ii r3, .str t9, .sl 1 s2, .sl 1 q2, .ii r0, .str s6, .sl 3 o3, .sl 1 o5, .ii s0, .str u5, .str u8, .ii r8, .sl 1 q6]]) (by subst m8 l9 l6 m1 m3 m9 l8 l7 m0 m2; rfl) ?_
 refine real tyOk Tryz.func86 (by kernel_rfl) (afun_of rfl ?_)
 refine gx hA 3 ?_
 refine gs (gr (rn hA 6 ?_))
 refine ops_split 10 rfl (fun c1 => ?_) (fun c1 => ?_)
 ·
  have ec1 : t3 = s1 := eql_t hA c1
  refine rn hA 7 ?_
  refine ops_split 17 rfl (fun c2 => ?_) (fun c2 => ?_)
  ·
   have ec2 : w5 = w1 := seql_t hA c2
   refine rn hA 7 ?_
   refine ops_split 24 rfl (fun c3 => ?_) (fun c3 => ?_)
   ·
    have ec3 : v8 = v0 := seql_t hA c3
    refine rz hA 7 ?_
    refine go_ret ⟨_, by cbv, ?_⟩
    show _ = (PV.bool (A.beq w0 v9))
    refine congrArg PV.bool ?_
    subst hA
    simp [stk, std, Bool.beq_eq_decide_eq, ec1, ec2, ec3]
   have ec3 : v8 ≠ v0 := seql_f hA c3
   refine rz hA 7 ?_
   refine go_ret ⟨_, by cbv, ?_⟩
   show _ = (PV.bool false)
   refine congrArg PV.bool ?_
   subst hA
   simp [stk, std, Bool.beq_eq_decide_eq, ec1, ec2, ec3]
  have ec2 : w5 ≠ w1 := seql_f hA c2
  refine rz hA 14 ?_
  refine go_ret ⟨_, by cbv, ?_⟩
  show _ = (PV.bool false)
  refine congrArg PV.bool ?_
  subst hA
  simp [stk, std, Bool.beq_eq_decide_eq, ec1, ec2]
 have ec1 : t3 ≠ s1 := eql_f hA c1
 refine rz hA 21 ?_
 refine go_ret ⟨_, by cbv, ?_⟩
 show _ = (PV.bool false)
 refine congrArg PV.bool ?_
 subst hA
 simp [stk, std, Bool.beq_eq_decide_eq, ec1]
def S85_1 (p0 : RR) (p1 : RR) (p2 : Int) (p3 : Int) : St := { sl := [.bad, .sl 17 p0, .fn 86 [], .bad, .bad, .bad, .bad, .bad, .bad, .bad, .bad, .bad, .bad, .bad, .bad, .sl 17 p1, .ii p2, .ii p3, .bad, .bad, .bad, .bad, .bad, .bad, .bad, .bad, .bad, .bad, .bad, .bad, .bad, .bad], bl := [] }
theorem r_EqualFunc_Session (A : Alg) (hA : A = std) (xs : List GSession) (ys : List GSession) (hx : (List.length xs : Int) ≤ 4611686018427387904)  : Real Tryz.prog 85 [.sl 17 (List.map eSession xs), .sl 17 (List.map eSession ys), .fn 86 []] (.bool (eqFunc stk xs ys)) := by
 obtain ⟨a0, f7⟩ := nm (xs.map eSession)
 have r5 := rlen_map hA f7
 obtain ⟨a6, f6⟩ := nm (ys.map eSession)
 have r6 := rlen_map hA f6
 refine real_args (args' := [.sl 17 a0, .sl 17 a6, .fn 86 []]) (by subst f7 f6; rfl) ?_
 refine real tyOk Tryz.func85 (by kernel_rfl) (afun_of rfl ?_)
 refine gx hA 1 ?_
 refine gs (gx hA 5 ?_)
 refine go_cond rfl (fun c1 => ?_) (fun c1 => ?_)
 ·
  have ec1 : (A.rlen a0) ≠ (A.rlen a6) := neq_t hA c1
  refine gx hA 1 ?_
  refine go_ret ⟨_, by cbv, ?_⟩
  show _ = (PV.bool false)
  refine congrArg PV.bool ?_
  exact eqFunc_len _ _ _ (by omega)
 have ec1 : (A.rlen a0) = (A.rlen a6) := neq_f hA c1
 refine gk (gs (gx hA 3 ?_))
 refine go_block ?_
 refine go_loopE (fun σ m => ∃ (i : Nat) (n : Int), σ = (S85_1 a6 a0 (A.rlen a0) n) ∧ (n = (i : Int) ∧ i ≤ List.length xs ∧ eqFunc stk xs ys = eqFunc stk (xs.drop i) (ys.drop i)) ∧ m = List.length xs - i) _ [] [1, 2, 15, 16, 17] [] (S85_1 a6 a0 (A.rlen a0) 0) rfl (by cbv) ⟨0, 0, rfl, ?_, rfl⟩ (fun σ m hI => ?_)
 ·
  exact ⟨rfl, Nat.zero_le _, rfl⟩
 obtain ⟨i, n, rfl, ⟨hn, hi, hE⟩, rfl⟩ := hI
 refine gx hA 1 ?_
 refine gs ?_
 refine go_cond rfl (fun c2 => ?_) (fun c2 => ?_)
 ·
  have ec2 : n < (A.rlen a0) := lss_t hA c2
  refine gk (gs ?_)
  refine go_block ?_
  refine gs (gr (rn hA 1 ?_))
  have l3 : (0 : Int) ≤ n := by
   omega
  have m5 : (Int.toNat n) < List.length xs := by
   omega
  obtain ⟨x3, hx3⟩ : ∃ x, (xs)[(Int.toNat n)]? = some x := ⟨_, List.getElem?_eq_getElem m5⟩
  have s5 := List.mem_of_getElem? hx3
  obtain ⟨i9, k8, k1, g4, ⟨b2, d5, g7, f5⟩, ⟨a8, d8, e2, f2⟩, ⟨d4, e8, f8, d2, g2⟩⟩ := x3
  obtain ⟨k2, g0⟩ := nm (g7.map eString)
  have q3 := rlen_map hA g0
  obtain ⟨j1, e3⟩ := nm (f5.map eString)
  have n7 := rlen_map hA e3
  obtain ⟨i7, c0⟩ := nm (e2.map eMail)
  have n3 := rlen_map hA c0
  obtain ⟨j3, e4⟩ := nm (f2.map eBool)
  have n8 := rlen_map hA e4
  obtain ⟨j8, f0⟩ := nm (g2.map eInt)
  have n9 := rlen_map hA f0
  have l2 : a0[(Int.toNat n)]? = some [.ii i9, .str k8, .str k1, .bool g4, .ii b2, .str d5, .sl 1 k2, .sl 1 j1, .ii a8, .str d8, .sl 3 i7, .sl 1 j3, .ii d4, .str e8, .str f8, .ii d2, .sl 1 j8] := by
   subst g0 e3 c0 e4 f0; exact map_at eSession f7 hx3
  have a4 := hx3
  rw [hn] at a4
  have a4 : (xs)[i]? = some (⟨i9, k8, k1, g4, ⟨b2, d5, g7, f5⟩, ⟨a8, d8, e2, f2⟩, ⟨d4, e8, f8, d2, g2⟩⟩ : GSession) := a4
  refine ops_step rfl rfl (idx_sl rfl rfl rfl rfl rfl l3 rfl l2) ?_
  refine rz hA 4 ?_
  refine gs (gr (rn hA 2 ?_))
  have l5 : (0 : Int) ≤ n := by
   omega
  have m4 : (Int.toNat n) < List.length ys := by
   omega
  obtain ⟨x4, hx4⟩ : ∃ x, (ys)[(Int.toNat n)]? = some x := ⟨_, List.getElem?_eq_getElem m4⟩
  have v3 := List.mem_of_getElem? hx4
  obtain ⟨i8, k9, k0, g5, ⟨b0, d3, g9, f4⟩, ⟨a9, d1, e0, f3⟩, ⟨d7, e7, f9, d6, g3⟩⟩ := x4
  obtain ⟨k3, g1⟩ := nm (g9.map eString)
  have q1 := rlen_map hA g1
  obtain ⟨j0, d9⟩ := nm (f4.map eString)
  have n5 := rlen_map hA d9
  obtain ⟨i6, b3⟩ := nm (e0.map eMail)
  have n4 := rlen_map hA b3
  obtain ⟨j2, e1⟩ := nm (f3.map eBool)
  have n6 := rlen_map hA e1
  obtain ⟨j9, e9⟩ := nm (g3.map eInt)
  have o4 := rlen_map hA e9
  have l4 : a6[(Int.toNat n)]? = some [.ii i8, .str k9, .str k0, .bool g5, .ii b0, .str d3, .sl 1 k3, .sl 1 j0, .ii a9, .str d1, .sl 3 i6, .sl 1 j2, .ii d7, .str e7, .str f9, .ii d6, .sl 1 j9] := by
   subst g1 d9 b3 e1 e9; exact map_at eSession f6 hx4
  have a3 := hx4
  rw [hn] at a3
  have a3 : (ys)[i]? = some (⟨i8, k9, k0, g5, ⟨b0, d3, g9, f4⟩, ⟨a9, d1, e0, f3⟩, ⟨d7, e7, f9, d6, g3⟩⟩ : GSession) := a3
  refine ops_step rfl rfl (idx_sl rfl rfl rfl rfl rfl l5 rfl l4) ?_
  refine rz hA 3 ?_
  refine gs (gr (rn hA 3 ?_))
  obtain ⟨i5, n0, hc6⟩ : ∃ (i5 : Bool), i5 = (stk (⟨i9, k8, k1, g4, ⟨b2, d5, g7, f5⟩, ⟨a8, d8, e2, f2⟩, ⟨d4, e8, f8, d2, g2⟩⟩ : GSession) (⟨i8, k9, k0, g5, ⟨b0, d3, g9, f4⟩, ⟨a9, d1, e0, f3⟩, ⟨d7, e7, f9, d6, g3⟩⟩ : GSession)) ∧ Real Tryz.prog 86 [.agg [.ii i9, .str k8, .str k1, .bool g4, .ii b2, .str d5, .sl 1 k2, .sl 1 j1, .ii a8, .str d8, .sl 3 i7, .sl 1 j3, .ii d4, .str e8, .str f8, .ii d2, .sl 1 j8], .agg [.ii i8, .str k9, .str k0, .bool g5, .ii b0, .str d3, .sl 1 k3, .sl 1 j0, .ii a9, .str d1, .sl 3 i6, .sl 1 j2, .ii d7, .str e7, .str f9, .ii d6, .sl 1 j9]] (.bool i5) := ⟨_, rfl, by subst g0 e3 c0 e4 f0 g1 d9 b3 e1 e9; exact r_impl_sameTalk A hA (⟨i9, k8, k1, g4, ⟨b2, d5, g7, f5⟩, ⟨a8, d8, e2, f2⟩, ⟨d4, e8, f8, d2, g2⟩⟩ : GSession) (⟨i8, k9, k0, g5, ⟨b0, d3, g9, f4⟩, ⟨a9, d1, e0, f3⟩, ⟨d7, e7, f9, d6, g3⟩⟩ : GSession) ⟩
  refine ops_callV rfl rfl (by cbv) (by cbv) hc6 (.inr rfl) (by cbv) ?_
  refine rz hA 1 ?_
  refine go_cond rfl (fun c7 => ?_) (fun c7 => ?_)
  ·
   have c8 : i5 = false := bnot_t hA c7
   refine gx hA 1 ?_
   refine go_ret ⟨_, by cbv, ?_⟩
   show _ = (PV.bool false)
   refine congrArg PV.bool ?_
   rw [hE, eqFunc_at stk a4 a3]
   rw [← n0]; simp [show i5 = false from c8]
  have c9 : i5 = true := bnot_f hA c7
  refine gk (gy hA 2 ?_)
  refine ⟨(S85_1 a6 a0 (A.rlen a0) (A.num .add .i64 n 1)), List.length xs - (i + 1), ?_, by cbv, i + 1, (A.num .add .i64 n 1), rfl, ?_, rfl⟩
  ·
   omega
  refine ⟨by rw [add_i64 hA (by omega) (by omega)]; omega, by omega, ?_⟩
  rw [hE, eqFunc_at stk a4 a3]
  rw [← n0]; simp [show i5 = true from c9]
 have ec2 : (A.rlen a0) ≤ n := lss_f hA c2
 refine go_exit ⟨fun _ => ?_, fun h => absurd rfl h⟩
 refine gx hA 1 ?_
 refine go_ret ⟨_, by cbv, ?_⟩
 show _ = (PV.bool true)
 refine congrArg PV.bool ?_
 rw [hE]; exact eqFunc_end _ (by omega) (by omega)
theorem r_impl_SameTalk (A : Alg) (hA : A = std) (xs : List GSession) (ys : List GSession) (hx : (List.length xs : Int) ≤ 4611686018427387904) : Real Tryz.prog 47 [.sl 17 (List.map eSession xs), .sl 17 (List.map eSession ys)] (.bool (eqFunc stk xs ys)) := by
 obtain ⟨a0, f7⟩ := nm (xs.map eSession)
 have r5 := rlen_map hA f7
 obtain ⟨a6, f6⟩ := nm (ys.map eSession)
 have r6 := rlen_map hA f6
 refine real_args (args' := [.sl 17 a0, .sl 17 a6]) (by subst f7 f6; rfl) ?_
 refine real tyOk Tryz.func47 (by kernel_rfl) (afun_of rfl ?_)
 refine gx hA 1 ?_
 refine gs (gr (rn hA 2 ?_))
 obtain ⟨v1, y4, hc2⟩ : ∃ (v1 : Bool), v1 = (eqFunc stk xs ys) ∧ Real Tryz.prog 85 [.sl 17 a0, .sl 17 a6, .fn 86 []] (.bool v1) := ⟨_, rfl, by subst f7 f6; exact r_EqualFunc_Session A hA xs ys (by omega)⟩
 refine ops_callV rfl rfl (by cbv) (by cbv) hc2 (.inr rfl) (by cbv) ?_
 refine rz hA 1 ?_
 refine go_ret ⟨_, by cbv, ?_⟩
 show _ = (PV.bool v1)
 exact congrArg PV.bool y4.symm
end Go.Av
