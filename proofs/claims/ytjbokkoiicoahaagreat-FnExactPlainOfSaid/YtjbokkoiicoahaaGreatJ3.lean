/- Walks: the items of a box and of a mail. -/
import Derived.Test.YtjbokkoiicoahaaGreatJ1
namespace Go.Av
open Go Go.Proofs
set_option maxRecDepth 100000
set_option maxHeartbeats 4000000
set_option linter.unusedVariables false
set_option linter.unusedSimpArgs false
def Sr_latest_mail_1 (p0 : Int) (p1 : Int) (p2 : Int) (p3 : Bool) (p4 : RR) (p5 : Int) (p6 : Int) (p7 : Int) (p8 : ByteArray) (p9 : Int) (p10 : Int) (p11 : Int) (p12 : Int) (p13 : Int) (p14 : Int) (p15 : ByteArray) (p16 : ByteArray) (p17 : ByteArray) : St := { sl := [.bad, .fn 192 [.rd [.ii p0], .rd [.ii p1], .rd [.ii p2]], .fn 170 [], .bad, .bad, .bad, .pt 6 0 0, .bad, .pt 8 0 0, .bool p3, .bad, .bad, .bad, .sl 9 p4, .ii p5, .ii p6, .bad, .bad, .bad, .bad, .bad, .bad, .bad, .bad, .bad, .bad, .bad, .bad, .bad, .bad, .bad, .bad, .bad, .bad, .bad, .bad, .bad], bl := [(6, ⟨.var, 9, [[.ii p7, .ii p7, .ii p7, .ii p7, .ii p7, .ii p7, .str p8, .str p8, .str p8]]⟩), (8, ⟨.var, 9, [[.ii p9, .ii p10, .ii p11, .ii p12, .ii p13, .ii p14, .str p15, .str p16, .str p17]]⟩)] }
theorem r_latest_mail (A : Alg) (hA : A = std) (xs : List GItem) (k v u : Int) (hx : (List.length xs : Int) ≤ 4611686018427387904) : Real Tryz.prog 167 [.sl 9 (List.map eItem xs), .fn 192 [.rd [.ii k], .rd [.ii v], .rd [.ii u]], .fn 170 []] (.tup [.agg (eItem (Option.getD (lat (mailIs k v u) bySeqB xs) zItem)), .bool (Option.isSome (lat (mailIs k v u) bySeqB xs))]) := by
 obtain ⟨a8, b4⟩ := nm (xs.map eItem)
 have c0 := rlen_map hA b4
 refine real_args (args' := [.sl 9 a8, .fn 192 [.rd [.ii k], .rd [.ii v], .rd [.ii u]], .fn 170 []]) (by subst b4; rfl) ?_
 refine real tyOk Tryz.func167 (by kernel_rfl) (afun_of rfl ?_)
 refine gx hA 2 ?_
 refine gx hA 4 ?_
 refine gs (gx hA 3 ?_)
 refine go_block ?_
 refine go_loopE (fun σ m => ∃ (i : Nat) (n : Int) (fd : Bool) (q0 : Int) (q1 : Int) (q2 : Int) (q3 : Int) (q4 : Int) (q5 : Int) (q6 : ByteArray) (q7 : ByteArray) (q8 : ByteArray), σ = (Sr_latest_mail_1 k v u fd a8 (A.rlen a8) n 0 ByteArray.empty q0 q1 q2 q3 q4 q5 q6 q7 q8) ∧ (n = (i : Int) ∧ i ≤ List.length xs ∧ fd = Option.isSome (lat (mailIs k v u) bySeqB (xs.take i)) ∧ (⟨q0, ⟨q1, q2, q3, q4, q5, q6, q7, q8⟩⟩ : GItem) = Option.getD (lat (mailIs k v u) bySeqB (xs.take i)) zItem) ∧ m = List.length xs - i) _ [.up 8, .up 6] [1, 2, 6, 8, 9, 13, 14, 15] [6, 8] (Sr_latest_mail_1 k v u false a8 (A.rlen a8) 0 0 ByteArray.empty 0 0 0 0 0 0 ByteArray.empty ByteArray.empty ByteArray.empty) rfl (by cbv) ⟨0, 0, false, 0, 0, 0, 0, 0, 0, ByteArray.empty, ByteArray.empty, ByteArray.empty, rfl, ?_, rfl⟩ (fun σ m hI => ?_)
 ·
  exact ⟨rfl, Nat.zero_le _, rfl, rfl⟩
 obtain ⟨i, n, fd, q0, q1, q2, q3, q4, q5, q6, q7, q8, rfl, ⟨hn, hi, hF, hQ⟩, rfl⟩ := hI
 refine gx hA 1 ?_
 refine gs ?_
 refine go_cond rfl (fun c1 => ?_) (fun c1 => ?_)
 ·
  have ec1 : n < (A.rlen a8) := lss_t hA c1
  refine gk (gs ?_)
  refine go_block ?_
  refine gs (gr ?_)
  have b8 : (0 : Int) ≤ n := by
   omega
  have b9 : (Int.toNat n) < List.length xs := by
   omega
  obtain ⟨x2, hx2⟩ : ∃ x, (xs)[(Int.toNat n)]? = some x := ⟨_, List.getElem?_eq_getElem b9⟩
  have c2 := List.mem_of_getElem? hx2
  obtain ⟨a9, ⟨a6, a0, a7, a4, a1, a2, a5, a3⟩⟩ := x2
  have b7 : a8[(Int.toNat n)]? = some [.ii a9, .ii a6, .ii a0, .ii a7, .ii a4, .ii a1, .str a2, .str a5, .str a3] := by
   exact map_at eItem b4 hx2
  have b0 := hx2
  rw [hn] at b0
  have b0 : (xs)[i]? = some (⟨a9, ⟨a6, a0, a7, a4, a1, a2, a5, a3⟩⟩ : GItem) := b0
  refine ops_step rfl rfl (idx_sl rfl rfl rfl rfl rfl b8 rfl b7) ?_
  refine rz hA 3 ?_
  refine gs (gr (rn hA 3 ?_))
  obtain ⟨b5, b2, hc4⟩ : ∃ (b5 : Bool), b5 = (mailIs k v u (⟨a6, a0, a7, a4, a1, a2, a5, a3⟩ : GRec)) ∧ Real Tryz.prog 192 [.agg [.ii a6, .ii a0, .ii a7, .ii a4, .ii a1, .str a2, .str a5, .str a3], .rd [.ii k], .rd [.ii v], .rd [.ii u]] (.bool b5) := ⟨_, rfl, by exact r_mailItem_f A hA (⟨a6, a0, a7, a4, a1, a2, a5, a3⟩ : GRec) k v u ⟩
  refine ops_callV rfl rfl (by cbv) (by cbv) hc4 (.inr rfl) (by cbv) ?_
  refine rn hA 1 ?_
  refine ops_split 23 rfl (fun c5 => ?_) (fun c5 => ?_)
  ·
   refine rn hA 3 ?_
   refine ops_split 26 rfl (fun c6 => ?_) (fun c6 => ?_)
   ·
    have c7 : fd = false := bnot_t hA c6
    refine rz hA 6 ?_
    refine go_cond rfl (fun c8 => ?_) (fun c8 => ?_)
    ·
     refine gy hA 3 ?_
     refine gy hA 2 ?_
     refine ⟨(Sr_latest_mail_1 k v u true a8 (A.rlen a8) (A.num .add .i64 n 1) 0 ByteArray.empty a9 a6 a0 a7 a4 a1 a2 a5 a3), List.length xs - (i + 1), ?_, by cbv, i + 1, (A.num .add .i64 n 1), true, a9, a6, a0, a7, a4, a1, a2, a5, a3, rfl, ?_, rfl⟩
     ·
      omega
     refine ⟨by rw [add_i64 hA (by omega) (by omega)]; omega, by omega, ?_⟩
     rw [lat_at b0]
     rw [lat_new (by rw [← b2]; assumption) (by rw [← hF]; exact Eq.symm (by assumption))]
     exact ⟨rfl, rfl⟩
    exact no_f c8 (show true = true from by rfl)
   have c9 : fd = true := bnot_f hA c6
   refine rn hA 3 ?_
   obtain ⟨b1, b3, b6⟩ : ∃ (b1 : Bool), b1 = (bySeqB (⟨q0, ⟨q1, q2, q3, q4, q5, q6, q7, q8⟩⟩ : GItem) (⟨a9, ⟨a6, a0, a7, a4, a1, a2, a5, a3⟩⟩ : GItem)) ∧ Real Tryz.prog 170 [.agg [.ii q0, .ii q1, .ii q2, .ii q3, .ii q4, .ii q5, .str q6, .str q7, .str q8], .agg [.ii a9, .ii a6, .ii a0, .ii a7, .ii a4, .ii a1, .str a2, .str a5, .str a3]] (.bool b1) := ⟨_, rfl, by exact r_impl_bySeq A hA (⟨q0, ⟨q1, q2, q3, q4, q5, q6, q7, q8⟩⟩ : GItem) (⟨a9, ⟨a6, a0, a7, a4, a1, a2, a5, a3⟩⟩ : GItem) ⟩
   refine ops_callG rfl rfl rfl rfl (by cbv) (by cbv) b6 (.inr rfl) (by cbv) ?_
   refine rz hA 2 ?_
   refine go_cond rfl (fun c12 => ?_) (fun c12 => ?_)
   ·
    refine gy hA 3 ?_
    refine gy hA 2 ?_
    refine ⟨(Sr_latest_mail_1 k v u true a8 (A.rlen a8) (A.num .add .i64 n 1) 0 ByteArray.empty a9 a6 a0 a7 a4 a1 a2 a5 a3), List.length xs - (i + 1), ?_, by cbv, i + 1, (A.num .add .i64 n 1), true, a9, a6, a0, a7, a4, a1, a2, a5, a3, rfl, ?_, rfl⟩
    ·
     omega
    refine ⟨by rw [add_i64 hA (by omega) (by omega)]; omega, by omega, ?_⟩
    rw [lat_at b0]
    rw [lat_lt (by rw [← b2]; assumption) (by rw [← hF]; exact Eq.symm (by assumption)) hQ (by rw [← b3]; assumption)]
    exact ⟨rfl, rfl⟩
   refine gk (gy hA 2 ?_)
   refine ⟨(Sr_latest_mail_1 k v u fd a8 (A.rlen a8) (A.num .add .i64 n 1) 0 ByteArray.empty q0 q1 q2 q3 q4 q5 q6 q7 q8), List.length xs - (i + 1), ?_, by cbv, i + 1, (A.num .add .i64 n 1), fd, q0, q1, q2, q3, q4, q5, q6, q7, q8, rfl, ?_, rfl⟩
   ·
    omega
   refine ⟨by rw [add_i64 hA (by omega) (by omega)]; omega, by omega, ?_⟩
   rw [lat_at b0]
   rw [lat_ge (by rw [← hF]; exact Eq.symm (by assumption)) hQ (by rw [← b3]; assumption)]
   exact ⟨hF, hQ⟩
  refine rz hA 9 ?_
  refine go_cond rfl (fun c13 => ?_) (fun c13 => ?_)
  ·
   exact no_t c13 (show false = false from by rfl)
  refine gk (gy hA 2 ?_)
  refine ⟨(Sr_latest_mail_1 k v u fd a8 (A.rlen a8) (A.num .add .i64 n 1) 0 ByteArray.empty q0 q1 q2 q3 q4 q5 q6 q7 q8), List.length xs - (i + 1), ?_, by cbv, i + 1, (A.num .add .i64 n 1), fd, q0, q1, q2, q3, q4, q5, q6, q7, q8, rfl, ?_, rfl⟩
  ·
   omega
  refine ⟨by rw [add_i64 hA (by omega) (by omega)]; omega, by omega, ?_⟩
  rw [lat_at b0]
  rw [lat_no (by rw [← b2]; assumption)]
  exact ⟨hF, hQ⟩
 have ec1 : (A.rlen a8) ≤ n := lss_f hA c1
 refine go_exit ⟨fun _ => ?_, fun h => absurd rfl h⟩
 refine gx hA 4 ?_
 refine go_ret ⟨_, by cbv, ?_⟩
 show _ = PV.tup [.agg [.ii q0, .ii q1, .ii q2, .ii q3, .ii q4, .ii q5, .str q6, .str q7, .str q8], .bool fd]
 rw [List.take_of_length_le (by omega)] at hF hQ
 rw [← hF, ← hQ]
 rfl
def Sr_latest_drop_1 (p0 : Int) (p1 : Bool) (p2 : RR) (p3 : Int) (p4 : Int) (p5 : Int) (p6 : ByteArray) (p7 : Int) (p8 : Int) (p9 : Int) (p10 : Int) (p11 : Int) (p12 : Int) (p13 : ByteArray) (p14 : ByteArray) (p15 : ByteArray) : St := { sl := [.bad, .fn 168 [.rd [.ii p0]], .fn 170 [], .bad, .bad, .bad, .pt 6 0 0, .bad, .pt 8 0 0, .bool p1, .bad, .bad, .bad, .sl 9 p2, .ii p3, .ii p4, .bad, .bad, .bad, .bad, .bad, .bad, .bad, .bad, .bad, .bad, .bad, .bad, .bad, .bad, .bad, .bad, .bad, .bad, .bad, .bad, .bad], bl := [(6, ⟨.var, 9, [[.ii p5, .ii p5, .ii p5, .ii p5, .ii p5, .ii p5, .str p6, .str p6, .str p6]]⟩), (8, ⟨.var, 9, [[.ii p7, .ii p8, .ii p9, .ii p10, .ii p11, .ii p12, .str p13, .str p14, .str p15]]⟩)] }
theorem r_latest_drop (A : Alg) (hA : A = std) (xs : List GItem) (v : Int) (hx : (List.length xs : Int) ≤ 4611686018427387904) : Real Tryz.prog 167 [.sl 9 (List.map eItem xs), .fn 168 [.rd [.ii v]], .fn 170 []] (.tup [.agg (eItem (Option.getD (lat (kindIs 2 v) bySeqB xs) zItem)), .bool (Option.isSome (lat (kindIs 2 v) bySeqB xs))]) := by
 obtain ⟨a8, b4⟩ := nm (xs.map eItem)
 have c0 := rlen_map hA b4
 refine real_args (args' := [.sl 9 a8, .fn 168 [.rd [.ii v]], .fn 170 []]) (by subst b4; rfl) ?_
 refine real tyOk Tryz.func167 (by kernel_rfl) (afun_of rfl ?_)
 refine gx hA 2 ?_
 refine gx hA 4 ?_
 refine gs (gx hA 3 ?_)
 refine go_block ?_
 refine go_loopE (fun σ m => ∃ (i : Nat) (n : Int) (fd : Bool) (q0 : Int) (q1 : Int) (q2 : Int) (q3 : Int) (q4 : Int) (q5 : Int) (q6 : ByteArray) (q7 : ByteArray) (q8 : ByteArray), σ = (Sr_latest_drop_1 v fd a8 (A.rlen a8) n 0 ByteArray.empty q0 q1 q2 q3 q4 q5 q6 q7 q8) ∧ (n = (i : Int) ∧ i ≤ List.length xs ∧ fd = Option.isSome (lat (kindIs 2 v) bySeqB (xs.take i)) ∧ (⟨q0, ⟨q1, q2, q3, q4, q5, q6, q7, q8⟩⟩ : GItem) = Option.getD (lat (kindIs 2 v) bySeqB (xs.take i)) zItem) ∧ m = List.length xs - i) _ [.up 8, .up 6] [1, 2, 6, 8, 9, 13, 14, 15] [6, 8] (Sr_latest_drop_1 v false a8 (A.rlen a8) 0 0 ByteArray.empty 0 0 0 0 0 0 ByteArray.empty ByteArray.empty ByteArray.empty) rfl (by cbv) ⟨0, 0, false, 0, 0, 0, 0, 0, 0, ByteArray.empty, ByteArray.empty, ByteArray.empty, rfl, ?_, rfl⟩ (fun σ m hI => ?_)
 ·
  exact ⟨rfl, Nat.zero_le _, rfl, rfl⟩
 obtain ⟨i, n, fd, q0, q1, q2, q3, q4, q5, q6, q7, q8, rfl, ⟨hn, hi, hF, hQ⟩, rfl⟩ := hI
 refine gx hA 1 ?_
 refine gs ?_
 refine go_cond rfl (fun c1 => ?_) (fun c1 => ?_)
 ·
  have ec1 : n < (A.rlen a8) := lss_t hA c1
  refine gk (gs ?_)
  refine go_block ?_
  refine gs (gr ?_)
  have b8 : (0 : Int) ≤ n := by
   omega
  have b9 : (Int.toNat n) < List.length xs := by
   omega
  obtain ⟨x2, hx2⟩ : ∃ x, (xs)[(Int.toNat n)]? = some x := ⟨_, List.getElem?_eq_getElem b9⟩
  have c2 := List.mem_of_getElem? hx2
  obtain ⟨a9, ⟨a6, a0, a7, a4, a1, a2, a5, a3⟩⟩ := x2
  have b7 : a8[(Int.toNat n)]? = some [.ii a9, .ii a6, .ii a0, .ii a7, .ii a4, .ii a1, .str a2, .str a5, .str a3] := by
   exact map_at eItem b4 hx2
  have b0 := hx2
  rw [hn] at b0
  have b0 : (xs)[i]? = some (⟨a9, ⟨a6, a0, a7, a4, a1, a2, a5, a3⟩⟩ : GItem) := b0
  refine ops_step rfl rfl (idx_sl rfl rfl rfl rfl rfl b8 rfl b7) ?_
  refine rz hA 3 ?_
  refine gs (gr (rn hA 3 ?_))
  obtain ⟨b5, b2, hc4⟩ : ∃ (b5 : Bool), b5 = (kindIs 2 v (⟨a6, a0, a7, a4, a1, a2, a5, a3⟩ : GRec)) ∧ Real Tryz.prog 168 [.agg [.ii a6, .ii a0, .ii a7, .ii a4, .ii a1, .str a2, .str a5, .str a3], .rd [.ii v]] (.bool b5) := ⟨_, rfl, by exact r_boxThere_f A hA (⟨a6, a0, a7, a4, a1, a2, a5, a3⟩ : GRec) v ⟩
  refine ops_callV rfl rfl (by cbv) (by cbv) hc4 (.inr rfl) (by cbv) ?_
  refine rn hA 1 ?_
  refine ops_split 23 rfl (fun c5 => ?_) (fun c5 => ?_)
  ·
   refine rn hA 3 ?_
   refine ops_split 26 rfl (fun c6 => ?_) (fun c6 => ?_)
   ·
    have c7 : fd = false := bnot_t hA c6
    refine rz hA 6 ?_
    refine go_cond rfl (fun c8 => ?_) (fun c8 => ?_)
    ·
     refine gy hA 3 ?_
     refine gy hA 2 ?_
     refine ⟨(Sr_latest_drop_1 v true a8 (A.rlen a8) (A.num .add .i64 n 1) 0 ByteArray.empty a9 a6 a0 a7 a4 a1 a2 a5 a3), List.length xs - (i + 1), ?_, by cbv, i + 1, (A.num .add .i64 n 1), true, a9, a6, a0, a7, a4, a1, a2, a5, a3, rfl, ?_, rfl⟩
     ·
      omega
     refine ⟨by rw [add_i64 hA (by omega) (by omega)]; omega, by omega, ?_⟩
     rw [lat_at b0]
     rw [lat_new (by rw [← b2]; assumption) (by rw [← hF]; exact Eq.symm (by assumption))]
     exact ⟨rfl, rfl⟩
    exact no_f c8 (show true = true from by rfl)
   have c9 : fd = true := bnot_f hA c6
   refine rn hA 3 ?_
   obtain ⟨b1, b3, b6⟩ : ∃ (b1 : Bool), b1 = (bySeqB (⟨q0, ⟨q1, q2, q3, q4, q5, q6, q7, q8⟩⟩ : GItem) (⟨a9, ⟨a6, a0, a7, a4, a1, a2, a5, a3⟩⟩ : GItem)) ∧ Real Tryz.prog 170 [.agg [.ii q0, .ii q1, .ii q2, .ii q3, .ii q4, .ii q5, .str q6, .str q7, .str q8], .agg [.ii a9, .ii a6, .ii a0, .ii a7, .ii a4, .ii a1, .str a2, .str a5, .str a3]] (.bool b1) := ⟨_, rfl, by exact r_impl_bySeq A hA (⟨q0, ⟨q1, q2, q3, q4, q5, q6, q7, q8⟩⟩ : GItem) (⟨a9, ⟨a6, a0, a7, a4, a1, a2, a5, a3⟩⟩ : GItem) ⟩
   refine ops_callG rfl rfl rfl rfl (by cbv) (by cbv) b6 (.inr rfl) (by cbv) ?_
   refine rz hA 2 ?_
   refine go_cond rfl (fun c12 => ?_) (fun c12 => ?_)
   ·
    refine gy hA 3 ?_
    refine gy hA 2 ?_
    refine ⟨(Sr_latest_drop_1 v true a8 (A.rlen a8) (A.num .add .i64 n 1) 0 ByteArray.empty a9 a6 a0 a7 a4 a1 a2 a5 a3), List.length xs - (i + 1), ?_, by cbv, i + 1, (A.num .add .i64 n 1), true, a9, a6, a0, a7, a4, a1, a2, a5, a3, rfl, ?_, rfl⟩
    ·
     omega
    refine ⟨by rw [add_i64 hA (by omega) (by omega)]; omega, by omega, ?_⟩
    rw [lat_at b0]
    rw [lat_lt (by rw [← b2]; assumption) (by rw [← hF]; exact Eq.symm (by assumption)) hQ (by rw [← b3]; assumption)]
    exact ⟨rfl, rfl⟩
   refine gk (gy hA 2 ?_)
   refine ⟨(Sr_latest_drop_1 v fd a8 (A.rlen a8) (A.num .add .i64 n 1) 0 ByteArray.empty q0 q1 q2 q3 q4 q5 q6 q7 q8), List.length xs - (i + 1), ?_, by cbv, i + 1, (A.num .add .i64 n 1), fd, q0, q1, q2, q3, q4, q5, q6, q7, q8, rfl, ?_, rfl⟩
   ·
    omega
   refine ⟨by rw [add_i64 hA (by omega) (by omega)]; omega, by omega, ?_⟩
   rw [lat_at b0]
   rw [lat_ge (by rw [← hF]; exact Eq.symm (by assumption)) hQ (by rw [← b3]; assumption)]
   exact ⟨hF, hQ⟩
  refine rz hA 9 ?_
  refine go_cond rfl (fun c13 => ?_) (fun c13 => ?_)
  ·
   exact no_t c13 (show false = false from by rfl)
  refine gk (gy hA 2 ?_)
  refine ⟨(Sr_latest_drop_1 v fd a8 (A.rlen a8) (A.num .add .i64 n 1) 0 ByteArray.empty q0 q1 q2 q3 q4 q5 q6 q7 q8), List.length xs - (i + 1), ?_, by cbv, i + 1, (A.num .add .i64 n 1), fd, q0, q1, q2, q3, q4, q5, q6, q7, q8, rfl, ?_, rfl⟩
  ·
   omega
  refine ⟨by rw [add_i64 hA (by omega) (by omega)]; omega, by omega, ?_⟩
  rw [lat_at b0]
  rw [lat_no (by rw [← b2]; assumption)]
  exact ⟨hF, hQ⟩
 have ec1 : (A.rlen a8) ≤ n := lss_f hA c1
 refine go_exit ⟨fun _ => ?_, fun h => absurd rfl h⟩
 refine gx hA 4 ?_
 refine go_ret ⟨_, by cbv, ?_⟩
 show _ = PV.tup [.agg [.ii q0, .ii q1, .ii q2, .ii q3, .ii q4, .ii q5, .str q6, .str q7, .str q8], .bool fd]
 rw [List.take_of_length_le (by omega)] at hF hQ
 rw [← hF, ← hQ]
 rfl
def Sr_latest_box_1 (p0 : Int) (p1 : Bool) (p2 : RR) (p3 : Int) (p4 : Int) (p5 : Int) (p6 : ByteArray) (p7 : Int) (p8 : Int) (p9 : Int) (p10 : Int) (p11 : Int) (p12 : Int) (p13 : ByteArray) (p14 : ByteArray) (p15 : ByteArray) : St := { sl := [.bad, .fn 171 [.rd [.ii p0]], .fn 172 [], .bad, .bad, .bad, .pt 6 0 0, .bad, .pt 8 0 0, .bool p1, .bad, .bad, .bad, .sl 9 p2, .ii p3, .ii p4, .bad, .bad, .bad, .bad, .bad, .bad, .bad, .bad, .bad, .bad, .bad, .bad, .bad, .bad, .bad, .bad, .bad, .bad, .bad, .bad, .bad], bl := [(6, ⟨.var, 9, [[.ii p5, .ii p5, .ii p5, .ii p5, .ii p5, .ii p5, .str p6, .str p6, .str p6]]⟩), (8, ⟨.var, 9, [[.ii p7, .ii p8, .ii p9, .ii p10, .ii p11, .ii p12, .str p13, .str p14, .str p15]]⟩)] }
theorem r_latest_box (A : Alg) (hA : A = std) (xs : List GItem) (v : Int) (hx : (List.length xs : Int) ≤ 4611686018427387904) : Real Tryz.prog 167 [.sl 9 (List.map eItem xs), .fn 171 [.rd [.ii v]], .fn 172 []] (.tup [.agg (eItem (Option.getD (lat (kindIs 1 v) byNextB xs) zItem)), .bool (Option.isSome (lat (kindIs 1 v) byNextB xs))]) := by
 obtain ⟨a8, b4⟩ := nm (xs.map eItem)
 have c0 := rlen_map hA b4
 refine real_args (args' := [.sl 9 a8, .fn 171 [.rd [.ii v]], .fn 172 []]) (by subst b4; rfl) ?_
 refine real tyOk Tryz.func167 (by kernel_rfl) (afun_of rfl ?_)
 refine gx hA 2 ?_
 refine gx hA 4 ?_
 refine gs (gx hA 3 ?_)
 refine go_block ?_
 refine go_loopE (fun σ m => ∃ (i : Nat) (n : Int) (fd : Bool) (q0 : Int) (q1 : Int) (q2 : Int) (q3 : Int) (q4 : Int) (q5 : Int) (q6 : ByteArray) (q7 : ByteArray) (q8 : ByteArray), σ = (Sr_latest_box_1 v fd a8 (A.rlen a8) n 0 ByteArray.empty q0 q1 q2 q3 q4 q5 q6 q7 q8) ∧ (n = (i : Int) ∧ i ≤ List.length xs ∧ fd = Option.isSome (lat (kindIs 1 v) byNextB (xs.take i)) ∧ (⟨q0, ⟨q1, q2, q3, q4, q5, q6, q7, q8⟩⟩ : GItem) = Option.getD (lat (kindIs 1 v) byNextB (xs.take i)) zItem) ∧ m = List.length xs - i) _ [.up 8, .up 6] [1, 2, 6, 8, 9, 13, 14, 15] [6, 8] (Sr_latest_box_1 v false a8 (A.rlen a8) 0 0 ByteArray.empty 0 0 0 0 0 0 ByteArray.empty ByteArray.empty ByteArray.empty) rfl (by cbv) ⟨0, 0, false, 0, 0, 0, 0, 0, 0, ByteArray.empty, ByteArray.empty, ByteArray.empty, rfl, ?_, rfl⟩ (fun σ m hI => ?_)
 ·
  exact ⟨rfl, Nat.zero_le _, rfl, rfl⟩
 obtain ⟨i, n, fd, q0, q1, q2, q3, q4, q5, q6, q7, q8, rfl, ⟨hn, hi, hF, hQ⟩, rfl⟩ := hI
 refine gx hA 1 ?_
 refine gs ?_
 refine go_cond rfl (fun c1 => ?_) (fun c1 => ?_)
 ·
  have ec1 : n < (A.rlen a8) := lss_t hA c1
  refine gk (gs ?_)
  refine go_block ?_
  refine gs (gr ?_)
  have b8 : (0 : Int) ≤ n := by
   omega
  have b9 : (Int.toNat n) < List.length xs := by
   omega
  obtain ⟨x2, hx2⟩ : ∃ x, (xs)[(Int.toNat n)]? = some x := ⟨_, List.getElem?_eq_getElem b9⟩
  have c2 := List.mem_of_getElem? hx2
  obtain ⟨a9, ⟨a6, a0, a7, a4, a1, a2, a5, a3⟩⟩ := x2
  have b7 : a8[(Int.toNat n)]? = some [.ii a9, .ii a6, .ii a0, .ii a7, .ii a4, .ii a1, .str a2, .str a5, .str a3] := by
   exact map_at eItem b4 hx2
  have b0 := hx2
  rw [hn] at b0
  have b0 : (xs)[i]? = some (⟨a9, ⟨a6, a0, a7, a4, a1, a2, a5, a3⟩⟩ : GItem) := b0
  refine ops_step rfl rfl (idx_sl rfl rfl rfl rfl rfl b8 rfl b7) ?_
  refine rz hA 3 ?_
  refine gs (gr (rn hA 3 ?_))
  obtain ⟨b5, b2, hc4⟩ : ∃ (b5 : Bool), b5 = (kindIs 1 v (⟨a6, a0, a7, a4, a1, a2, a5, a3⟩ : GRec)) ∧ Real Tryz.prog 171 [.agg [.ii a6, .ii a0, .ii a7, .ii a4, .ii a1, .str a2, .str a5, .str a3], .rd [.ii v]] (.bool b5) := ⟨_, rfl, by exact r_boxThere_g A hA (⟨a6, a0, a7, a4, a1, a2, a5, a3⟩ : GRec) v ⟩
  refine ops_callV rfl rfl (by cbv) (by cbv) hc4 (.inr rfl) (by cbv) ?_
  refine rn hA 1 ?_
  refine ops_split 23 rfl (fun c5 => ?_) (fun c5 => ?_)
  ·
   refine rn hA 3 ?_
   refine ops_split 26 rfl (fun c6 => ?_) (fun c6 => ?_)
   ·
    have c7 : fd = false := bnot_t hA c6
    refine rz hA 6 ?_
    refine go_cond rfl (fun c8 => ?_) (fun c8 => ?_)
    ·
     refine gy hA 3 ?_
     refine gy hA 2 ?_
     refine ⟨(Sr_latest_box_1 v true a8 (A.rlen a8) (A.num .add .i64 n 1) 0 ByteArray.empty a9 a6 a0 a7 a4 a1 a2 a5 a3), List.length xs - (i + 1), ?_, by cbv, i + 1, (A.num .add .i64 n 1), true, a9, a6, a0, a7, a4, a1, a2, a5, a3, rfl, ?_, rfl⟩
     ·
      omega
     refine ⟨by rw [add_i64 hA (by omega) (by omega)]; omega, by omega, ?_⟩
     rw [lat_at b0]
     rw [lat_new (by rw [← b2]; assumption) (by rw [← hF]; exact Eq.symm (by assumption))]
     exact ⟨rfl, rfl⟩
    exact no_f c8 (show true = true from by rfl)
   have c9 : fd = true := bnot_f hA c6
   refine rn hA 3 ?_
   obtain ⟨b1, b3, b6⟩ : ∃ (b1 : Bool), b1 = (byNextB (⟨q0, ⟨q1, q2, q3, q4, q5, q6, q7, q8⟩⟩ : GItem) (⟨a9, ⟨a6, a0, a7, a4, a1, a2, a5, a3⟩⟩ : GItem)) ∧ Real Tryz.prog 172 [.agg [.ii q0, .ii q1, .ii q2, .ii q3, .ii q4, .ii q5, .str q6, .str q7, .str q8], .agg [.ii a9, .ii a6, .ii a0, .ii a7, .ii a4, .ii a1, .str a2, .str a5, .str a3]] (.bool b1) := ⟨_, rfl, by exact r_impl_byNext A hA (⟨q0, ⟨q1, q2, q3, q4, q5, q6, q7, q8⟩⟩ : GItem) (⟨a9, ⟨a6, a0, a7, a4, a1, a2, a5, a3⟩⟩ : GItem) ⟩
   refine ops_callG rfl rfl rfl rfl (by cbv) (by cbv) b6 (.inr rfl) (by cbv) ?_
   refine rz hA 2 ?_
   refine go_cond rfl (fun c12 => ?_) (fun c12 => ?_)
   ·
    refine gy hA 3 ?_
    refine gy hA 2 ?_
    refine ⟨(Sr_latest_box_1 v true a8 (A.rlen a8) (A.num .add .i64 n 1) 0 ByteArray.empty a9 a6 a0 a7 a4 a1 a2 a5 a3), List.length xs - (i + 1), ?_, by cbv, i + 1, (A.num .add .i64 n 1), true, a9, a6, a0, a7, a4, a1, a2, a5, a3, rfl, ?_, rfl⟩
    ·
     omega
    refine ⟨by rw [add_i64 hA (by omega) (by omega)]; omega, by omega, ?_⟩
    rw [lat_at b0]
    rw [lat_lt (by rw [← b2]; assumption) (by rw [← hF]; exact Eq.symm (by assumption)) hQ (by rw [← b3]; assumption)]
    exact ⟨rfl, rfl⟩
   refine gk (gy hA 2 ?_)
   refine ⟨(Sr_latest_box_1 v fd a8 (A.rlen a8) (A.num .add .i64 n 1) 0 ByteArray.empty q0 q1 q2 q3 q4 q5 q6 q7 q8), List.length xs - (i + 1), ?_, by cbv, i + 1, (A.num .add .i64 n 1), fd, q0, q1, q2, q3, q4, q5, q6, q7, q8, rfl, ?_, rfl⟩
   ·
    omega
   refine ⟨by rw [add_i64 hA (by omega) (by omega)]; omega, by omega, ?_⟩
   rw [lat_at b0]
   rw [lat_ge (by rw [← hF]; exact Eq.symm (by assumption)) hQ (by rw [← b3]; assumption)]
   exact ⟨hF, hQ⟩
  refine rz hA 9 ?_
  refine go_cond rfl (fun c13 => ?_) (fun c13 => ?_)
  ·
   exact no_t c13 (show false = false from by rfl)
  refine gk (gy hA 2 ?_)
  refine ⟨(Sr_latest_box_1 v fd a8 (A.rlen a8) (A.num .add .i64 n 1) 0 ByteArray.empty q0 q1 q2 q3 q4 q5 q6 q7 q8), List.length xs - (i + 1), ?_, by cbv, i + 1, (A.num .add .i64 n 1), fd, q0, q1, q2, q3, q4, q5, q6, q7, q8, rfl, ?_, rfl⟩
  ·
   omega
  refine ⟨by rw [add_i64 hA (by omega) (by omega)]; omega, by omega, ?_⟩
  rw [lat_at b0]
  rw [lat_no (by rw [← b2]; assumption)]
  exact ⟨hF, hQ⟩
 have ec1 : (A.rlen a8) ≤ n := lss_f hA c1
 refine go_exit ⟨fun _ => ?_, fun h => absurd rfl h⟩
 refine gx hA 4 ?_
 refine go_ret ⟨_, by cbv, ?_⟩
 show _ = PV.tup [.agg [.ii q0, .ii q1, .ii q2, .ii q3, .ii q4, .ii q5, .str q6, .str q7, .str q8], .bool fd]
 rw [List.take_of_length_le (by omega)] at hF hQ
 rw [← hF, ← hQ]
 rfl
end Go.Av
namespace Go.Av
open Go Go.Proofs
set_option maxRecDepth 100000
set_option maxHeartbeats 4000000
set_option linter.unusedVariables false
set_option linter.unusedSimpArgs false
theorem r_impl_mailItem (A : Alg) (hA : A = std) (xs : List GItem) (k : Int) (v : Int) (u : Int)  (hx : (List.length xs : Int) ≤ 4611686018427387904) : Real Tryz.prog 175 [.sl 9 (List.map eItem xs), .ii k, .ii v, .ii u] (.tup [.agg (eItem (Option.getD (lat (mailIs k v u) bySeqB xs) zItem)), .bool (Option.isSome (lat (mailIs k v u) bySeqB xs))]) := by
 obtain ⟨j3, c1⟩ := nm (xs.map eItem)
 have n9 := rlen_map hA c1
 refine real_args (args' := [.sl 9 j3, .ii k, .ii v, .ii u]) (by subst c1; rfl) ?_
 refine real tyOk Tryz.func175 (by kernel_rfl) (afun_of rfl ?_)
 refine gx hA 5 ?_
 refine gs (gr (rn hA 2 ?_))
 obtain ⟨g3, b0, a0, c6, b9, a1, a8, c0, b4, l1, n3, m7, k2, m9, l9, k3, l5, m2, m5, n8, hc2⟩ : ∃ (g3 : Int) (b0 : Int) (a0 : Int) (c6 : Int) (b9 : Int) (a1 : Int) (a8 : ByteArray) (c0 : ByteArray) (b4 : ByteArray) (l1 : Bool), g3 = ((Option.getD (lat (mailIs k v u) bySeqB xs) zItem).Seq) ∧ b0 = (((Option.getD (lat (mailIs k v u) bySeqB xs) zItem).Rec).Kind) ∧ a0 = (((Option.getD (lat (mailIs k v u) bySeqB xs) zItem).Rec).Valid) ∧ c6 = (((Option.getD (lat (mailIs k v u) bySeqB xs) zItem).Rec).Uid) ∧ b9 = (((Option.getD (lat (mailIs k v u) bySeqB xs) zItem).Rec).Next) ∧ a1 = (((Option.getD (lat (mailIs k v u) bySeqB xs) zItem).Rec).Flags) ∧ a8 = (((Option.getD (lat (mailIs k v u) bySeqB xs) zItem).Rec).User) ∧ c0 = (((Option.getD (lat (mailIs k v u) bySeqB xs) zItem).Rec).Name) ∧ b4 = (((Option.getD (lat (mailIs k v u) bySeqB xs) zItem).Rec).Text) ∧ l1 = (Option.isSome (lat (mailIs k v u) bySeqB xs)) ∧ Real Tryz.prog 167 [.sl 9 j3, .fn 192 [.rd [.ii k], .rd [.ii v], .rd [.ii u]], .fn 170 []] (.tup [.agg [.ii g3, .ii b0, .ii a0, .ii c6, .ii b9, .ii a1, .str a8, .str c0, .str b4], .bool l1]) := ⟨_, _, _, _, _, _, _, _, _, _, rfl, rfl, rfl, rfl, rfl, rfl, rfl, rfl, rfl, rfl, by subst c1; exact r_latest_mail A hA xs k v u (by assumption)⟩
 refine ops_callV rfl rfl (by cbv) (by cbv) hc2 (.inl (by simp only [fresh, freshL, and_self])) (by cbv) ?_
 refine rz hA 4 ?_
 refine go_ret ⟨_, by cbv, ?_⟩
 show _ = PV.tup [.agg [.ii g3, .ii b0, .ii a0, .ii c6, .ii b9, .ii a1, .str a8, .str c0, .str b4], .bool l1]
 simp only [n3, m7, k2, m9, l9, k3, l5, m2, m5, n8]
 rfl
theorem r_impl_boxThere (A : Alg) (hA : A = std) (xs : List GItem) (v : Int)  (hx : (List.length xs : Int) ≤ 4611686018427387904) : Real Tryz.prog 134 [.sl 9 (List.map eItem xs), .ii v] (.tup [.agg (eItem (Option.getD (boxAt v xs) zItem)), .bool (Option.isSome (boxAt v xs))]) := by
 obtain ⟨j3, c1⟩ := nm (xs.map eItem)
 have n9 := rlen_map hA c1
 refine real_args (args' := [.sl 9 j3, .ii v]) (by subst c1; rfl) ?_
 refine real tyOk Tryz.func134 (by kernel_rfl) (afun_of rfl ?_)
 refine gx hA 3 ?_
 refine gs (gs (gr (rn hA 2 ?_)))
 obtain ⟨j4, e6, d3, g0, e9, d5, f5, f4, f0, n2, k0, i4, g7, j0, i9, g6, i3, i6, i1, j8, hc2⟩ : ∃ (j4 : Int) (e6 : Int) (d3 : Int) (g0 : Int) (e9 : Int) (d5 : Int) (f5 : ByteArray) (f4 : ByteArray) (f0 : ByteArray) (n2 : Bool), j4 = ((Option.getD (lat (kindIs 2 v) bySeqB xs) zItem).Seq) ∧ e6 = (((Option.getD (lat (kindIs 2 v) bySeqB xs) zItem).Rec).Kind) ∧ d3 = (((Option.getD (lat (kindIs 2 v) bySeqB xs) zItem).Rec).Valid) ∧ g0 = (((Option.getD (lat (kindIs 2 v) bySeqB xs) zItem).Rec).Uid) ∧ e9 = (((Option.getD (lat (kindIs 2 v) bySeqB xs) zItem).Rec).Next) ∧ d5 = (((Option.getD (lat (kindIs 2 v) bySeqB xs) zItem).Rec).Flags) ∧ f5 = (((Option.getD (lat (kindIs 2 v) bySeqB xs) zItem).Rec).User) ∧ f4 = (((Option.getD (lat (kindIs 2 v) bySeqB xs) zItem).Rec).Name) ∧ f0 = (((Option.getD (lat (kindIs 2 v) bySeqB xs) zItem).Rec).Text) ∧ n2 = (Option.isSome (lat (kindIs 2 v) bySeqB xs)) ∧ Real Tryz.prog 167 [.sl 9 j3, .fn 168 [.rd [.ii v]], .fn 170 []] (.tup [.agg [.ii j4, .ii e6, .ii d3, .ii g0, .ii e9, .ii d5, .str f5, .str f4, .str f0], .bool n2]) := ⟨_, _, _, _, _, _, _, _, _, _, rfl, rfl, rfl, rfl, rfl, rfl, rfl, rfl, rfl, rfl, by subst c1; exact r_latest_drop A hA xs v (by assumption)⟩
 refine ops_callV rfl rfl (by cbv) (by cbv) hc2 (.inl (by simp only [fresh, freshL, and_self])) (by cbv) ?_
 refine rz hA 6 ?_
 refine gx hA 1 ?_
 refine go_cond rfl (fun c3 => ?_) (fun c3 => ?_)
 ·
  refine gx hA 3 ?_
  refine go_ret ⟨_, by cbv, ?_⟩
  show _ = PV.tup [.agg [.ii 0, .ii 0, .ii 0, .ii 0, .ii 0, .ii 0, .str ByteArray.empty, .str ByteArray.empty, .str ByteArray.empty], .bool false]
  have k6 : (Option.isSome (lat (kindIs 2 v) bySeqB xs)) = true := by rw [← j8]; assumption
  rw [boxAt, if_pos (k6)]
  try simp only [k0, i4, g7, j0, i9, g6, i3, i6, i1, j8]
  rfl
 refine gk (gs (gr (rn hA 2 ?_)))
 obtain ⟨g2, b1, a3, c2, b2, a5, b5, b3, a7, l0, n4, m1, k1, n0, l6, k9, m3, m0, l4, n7, hc5⟩ : ∃ (g2 : Int) (b1 : Int) (a3 : Int) (c2 : Int) (b2 : Int) (a5 : Int) (b5 : ByteArray) (b3 : ByteArray) (a7 : ByteArray) (l0 : Bool), g2 = ((Option.getD (lat (kindIs 1 v) byNextB xs) zItem).Seq) ∧ b1 = (((Option.getD (lat (kindIs 1 v) byNextB xs) zItem).Rec).Kind) ∧ a3 = (((Option.getD (lat (kindIs 1 v) byNextB xs) zItem).Rec).Valid) ∧ c2 = (((Option.getD (lat (kindIs 1 v) byNextB xs) zItem).Rec).Uid) ∧ b2 = (((Option.getD (lat (kindIs 1 v) byNextB xs) zItem).Rec).Next) ∧ a5 = (((Option.getD (lat (kindIs 1 v) byNextB xs) zItem).Rec).Flags) ∧ b5 = (((Option.getD (lat (kindIs 1 v) byNextB xs) zItem).Rec).User) ∧ b3 = (((Option.getD (lat (kindIs 1 v) byNextB xs) zItem).Rec).Name) ∧ a7 = (((Option.getD (lat (kindIs 1 v) byNextB xs) zItem).Rec).Text) ∧ l0 = (Option.isSome (lat (kindIs 1 v) byNextB xs)) ∧ Real Tryz.prog 167 [.sl 9 j3, .fn 171 [.rd [.ii v]], .fn 172 []] (.tup [.agg [.ii g2, .ii b1, .ii a3, .ii c2, .ii b2, .ii a5, .str b5, .str b3, .str a7], .bool l0]) := ⟨_, _, _, _, _, _, _, _, _, _, rfl, rfl, rfl, rfl, rfl, rfl, rfl, rfl, rfl, rfl, by subst c1; exact r_latest_box A hA xs v (by assumption)⟩
 refine ops_callV rfl rfl (by cbv) (by cbv) hc5 (.inl (by simp only [fresh, freshL, and_self])) (by cbv) ?_
 refine rz hA 4 ?_
 refine go_ret ⟨_, by cbv, ?_⟩
 show _ = PV.tup [.agg [.ii g2, .ii b1, .ii a3, .ii c2, .ii b2, .ii a5, .str b5, .str b3, .str a7], .bool l0]
 have k6 : (Option.isSome (lat (kindIs 2 v) bySeqB xs)) = false := by rw [← j8]; assumption
 rw [boxAt, if_neg (by rw [k6]; decide)]
 try simp only [k0, i4, g7, j0, i9, g6, i3, i6, i1, j8, n4, m1, k1, n0, l6, k9, m3, m0, l4, n7]
 rfl
theorem r_impl_mailThere (A : Alg) (hA : A = std) (xs : List GItem) (v : Int) (u : Int)  (hx : (List.length xs : Int) ≤ 4611686018427387904) : Real Tryz.prog 174 [.sl 9 (List.map eItem xs), .ii v, .ii u] (.tup [.agg (eItem (Option.getD (mailAt v u xs) zItem)), .bool (Option.isSome (mailAt v u xs))]) := by
 obtain ⟨j3, c1⟩ := nm (xs.map eItem)
 have n9 := rlen_map hA c1
 refine real_args (args' := [.sl 9 j3, .ii v, .ii u]) (by subst c1; rfl) ?_
 refine real tyOk Tryz.func174 (by kernel_rfl) (afun_of rfl ?_)
 refine gx hA 2 ?_
 refine gs (gs (gr (rn hA 2 ?_)))
 obtain ⟨j5, f6, d9, f8, e5, d4, e8, e4, f7, j7, j1, e0, d0, f3, d8, c9, d2, e1, d6, g1, hc2⟩ : ∃ (j5 : Int) (f6 : Int) (d9 : Int) (f8 : Int) (e5 : Int) (d4 : Int) (e8 : ByteArray) (e4 : ByteArray) (f7 : ByteArray) (j7 : Bool), j5 = ((Option.getD (boxAt v xs) zItem).Seq) ∧ f6 = (((Option.getD (boxAt v xs) zItem).Rec).Kind) ∧ d9 = (((Option.getD (boxAt v xs) zItem).Rec).Valid) ∧ f8 = (((Option.getD (boxAt v xs) zItem).Rec).Uid) ∧ e5 = (((Option.getD (boxAt v xs) zItem).Rec).Next) ∧ d4 = (((Option.getD (boxAt v xs) zItem).Rec).Flags) ∧ e8 = (((Option.getD (boxAt v xs) zItem).Rec).User) ∧ e4 = (((Option.getD (boxAt v xs) zItem).Rec).Name) ∧ f7 = (((Option.getD (boxAt v xs) zItem).Rec).Text) ∧ j7 = (Option.isSome (boxAt v xs)) ∧ Real Tryz.prog 134 [.sl 9 j3, .ii v] (.tup [.agg [.ii j5, .ii f6, .ii d9, .ii f8, .ii e5, .ii d4, .str e8, .str e4, .str f7], .bool j7]) := ⟨_, _, _, _, _, _, _, _, _, _, rfl, rfl, rfl, rfl, rfl, rfl, rfl, rfl, rfl, rfl, by subst c1; exact r_impl_boxThere A hA xs v (by assumption)⟩
 refine ops_callV rfl rfl (by cbv) (by cbv) hc2 (.inr rfl) (by cbv) ?_
 refine rz hA 6 ?_
 refine gx hA 2 ?_
 refine go_cond rfl (fun c3 => ?_) (fun c3 => ?_)
 ·
  have c4 : j7 = false := bnot_t hA c3
  refine gx hA 3 ?_
  refine go_ret ⟨_, by cbv, ?_⟩
  show _ = PV.tup [.agg [.ii 0, .ii 0, .ii 0, .ii 0, .ii 0, .ii 0, .str ByteArray.empty, .str ByteArray.empty, .str ByteArray.empty], .bool false]
  have g5 : (Option.isSome (boxAt v xs)) = false := by rw [← g1]; assumption
  rw [mailAt, if_neg (by rw [g5]; decide)]
  try simp only [j1, e0, d0, f3, d8, c9, d2, e1, d6, g1]
  rfl
 have c5 : j7 = true := bnot_f hA c3
 refine gk (gs (gs (gr (rn hA 3 ?_))))
 obtain ⟨j6, f1, d7, f9, f2, d1, e7, e2, e3, n1, k7, i5, g9, j2, i2, g8, i8, i7, i0, j9, hc7⟩ : ∃ (j6 : Int) (f1 : Int) (d7 : Int) (f9 : Int) (f2 : Int) (d1 : Int) (e7 : ByteArray) (e2 : ByteArray) (e3 : ByteArray) (n1 : Bool), j6 = ((Option.getD (lat (mailIs 5 v u) bySeqB xs) zItem).Seq) ∧ f1 = (((Option.getD (lat (mailIs 5 v u) bySeqB xs) zItem).Rec).Kind) ∧ d7 = (((Option.getD (lat (mailIs 5 v u) bySeqB xs) zItem).Rec).Valid) ∧ f9 = (((Option.getD (lat (mailIs 5 v u) bySeqB xs) zItem).Rec).Uid) ∧ f2 = (((Option.getD (lat (mailIs 5 v u) bySeqB xs) zItem).Rec).Next) ∧ d1 = (((Option.getD (lat (mailIs 5 v u) bySeqB xs) zItem).Rec).Flags) ∧ e7 = (((Option.getD (lat (mailIs 5 v u) bySeqB xs) zItem).Rec).User) ∧ e2 = (((Option.getD (lat (mailIs 5 v u) bySeqB xs) zItem).Rec).Name) ∧ e3 = (((Option.getD (lat (mailIs 5 v u) bySeqB xs) zItem).Rec).Text) ∧ n1 = (Option.isSome (lat (mailIs 5 v u) bySeqB xs)) ∧ Real Tryz.prog 175 [.sl 9 j3, .ii 5, .ii v, .ii u] (.tup [.agg [.ii j6, .ii f1, .ii d7, .ii f9, .ii f2, .ii d1, .str e7, .str e2, .str e3], .bool n1]) := ⟨_, _, _, _, _, _, _, _, _, _, rfl, rfl, rfl, rfl, rfl, rfl, rfl, rfl, rfl, rfl, by subst c1; exact r_impl_mailItem A hA xs 5 v u (by assumption)⟩
 refine ops_callV rfl rfl (by cbv) (by cbv) hc7 (.inr rfl) (by cbv) ?_
 refine rz hA 6 ?_
 refine gx hA 1 ?_
 refine go_cond rfl (fun c8 => ?_) (fun c8 => ?_)
 ·
  refine gx hA 3 ?_
  refine go_ret ⟨_, by cbv, ?_⟩
  show _ = PV.tup [.agg [.ii 0, .ii 0, .ii 0, .ii 0, .ii 0, .ii 0, .str ByteArray.empty, .str ByteArray.empty, .str ByteArray.empty], .bool false]
  have g5 : (Option.isSome (boxAt v xs)) = true := by rw [← g1]; assumption
  have k8 : (Option.isSome (lat (mailIs 5 v u) bySeqB xs)) = true := by rw [← j9]; assumption
  rw [mailAt, if_pos (g5), if_pos (k8)]
  try simp only [j1, e0, d0, f3, d8, c9, d2, e1, d6, g1, k7, i5, g9, j2, i2, g8, i8, i7, i0, j9]
  rfl
 refine gk (gs (gr (rn hA 3 ?_)))
 obtain ⟨g4, b7, a2, c7, b6, a4, a6, a9, b8, l2, n5, l8, k4, m8, m4, k5, l7, l3, m6, n6, o0⟩ : ∃ (g4 : Int) (b7 : Int) (a2 : Int) (c7 : Int) (b6 : Int) (a4 : Int) (a6 : ByteArray) (a9 : ByteArray) (b8 : ByteArray) (l2 : Bool), g4 = ((Option.getD (lat (mailIs 3 v u) bySeqB xs) zItem).Seq) ∧ b7 = (((Option.getD (lat (mailIs 3 v u) bySeqB xs) zItem).Rec).Kind) ∧ a2 = (((Option.getD (lat (mailIs 3 v u) bySeqB xs) zItem).Rec).Valid) ∧ c7 = (((Option.getD (lat (mailIs 3 v u) bySeqB xs) zItem).Rec).Uid) ∧ b6 = (((Option.getD (lat (mailIs 3 v u) bySeqB xs) zItem).Rec).Next) ∧ a4 = (((Option.getD (lat (mailIs 3 v u) bySeqB xs) zItem).Rec).Flags) ∧ a6 = (((Option.getD (lat (mailIs 3 v u) bySeqB xs) zItem).Rec).User) ∧ a9 = (((Option.getD (lat (mailIs 3 v u) bySeqB xs) zItem).Rec).Name) ∧ b8 = (((Option.getD (lat (mailIs 3 v u) bySeqB xs) zItem).Rec).Text) ∧ l2 = (Option.isSome (lat (mailIs 3 v u) bySeqB xs)) ∧ Real Tryz.prog 175 [.sl 9 j3, .ii 3, .ii v, .ii u] (.tup [.agg [.ii g4, .ii b7, .ii a2, .ii c7, .ii b6, .ii a4, .str a6, .str a9, .str b8], .bool l2]) := ⟨_, _, _, _, _, _, _, _, _, _, rfl, rfl, rfl, rfl, rfl, rfl, rfl, rfl, rfl, rfl, by subst c1; exact r_impl_mailItem A hA xs 3 v u (by assumption)⟩
 refine ops_callV rfl rfl (by cbv) (by cbv) o0 (.inr rfl) (by cbv) ?_
 refine rz hA 4 ?_
 refine go_ret ⟨_, by cbv, ?_⟩
 show _ = PV.tup [.agg [.ii g4, .ii b7, .ii a2, .ii c7, .ii b6, .ii a4, .str a6, .str a9, .str b8], .bool l2]
 have g5 : (Option.isSome (boxAt v xs)) = true := by rw [← g1]; assumption
 have k8 : (Option.isSome (lat (mailIs 5 v u) bySeqB xs)) = false := by rw [← j9]; assumption
 rw [mailAt, if_pos (g5), if_neg (by rw [k8]; decide)]
 try simp only [j1, e0, d0, f3, d8, c9, d2, e1, d6, g1, k7, i5, g9, j2, i2, g8, i8, i7, i0, j9, n5, l8, k4, m8, m4, k5, l7, l3, m6, n6]
 rfl
end Go.Av
