/- Walks: the items of a box and of a mail. -/
import Derived.Test.YtjbokkoiicoahaaGreatJ1
namespace Go.Av
open Go Go.Proofs
set_option maxRecDepth 100000
set_option maxHeartbeats 4000000
set_option linter.unusedVariables false
set_option linter.unusedSimpArgs false
def Sr_latest_mail_1 (p0 : Int) (p1 : Int) (p2 : Int) (p3 : Bool) (p4 : RR) (p5 : Int) (p6 : Int) (p7 : Int) (p8 : ByteArray) (p9 : Int) (p10 : Int) (p11 : Int) (p12 : Int) (p13 : Int) (p14 : Int) (p15 : ByteArray) (p16 : ByteArray) (p17 : ByteArray) : St := { sl := [.bad, .fn 192 [.rd [.ii p0], .rd [.ii p1], .rd [.ii p2]], .fn 170 [], .bad, .bad, .bad, .pt 6 0 0, .bad, .pt 8 0 0, .bool p3, .bad, .bad, .bad, .sl 9 p4, .ii p5, .ii p6, .bad, .bad, .bad, .bad, .bad, .bad, .bad, .bad, .bad, .bad, .bad, .bad, .bad, .bad, .bad, .bad, .bad, .bad, .bad, .bad, .bad], bl := [(6, ⟨.var, 9, [[.ii p7, .ii p7, .ii p7, .ii p7, .ii p7, .ii p7, .str p8, .str p8, .str p8]]⟩), (8, ⟨.var, 9, [[.ii p9, .ii p10, .ii p11, .ii p12, .ii p13, .ii p14, .str p15, .str p16, .str p17]]⟩)] }
theorem r_latest_mail (A : Alg) (hA : A = std) (xs : List GItem) (k v u : Int) (hx : (List.length xs : Int) ≤ 4611686018427387904) : Real Tryz.prog 167 [.sl 9 (List.map eItem xs), .fn 192 [.rd [.ii k], .rd [.ii v], .rd [.ii u]], .fn 170 []] (.tup [.agg (eItem (Option.getD (lat (mailIs k v u) bySeqB xs) zItem)), .bool (Option.isSome (lat (mailIs k v u) bySeqB xs))]) := by
 obtain ⟨a8, b4⟩ := nm (xs.map eItem)
 have c0 := rlen_map hA b4
 refine real_args (args' := [.sl 9 a8, .fn 192 [.rd [.ii k], .rd [.ii v], .rd [.ii u]], .fn 170 []]) (by subst b4; rfl) ?_
 refine real tyOk Tryz.func167 (by kernel_rfl) (afun_of rfl ?_)
 refine gx hA 2 ?_
 refine gx hA 4 ?_
 refine gs (gx hA 3 ?_)
 refine go_block ?_
 refine go_loopE (fun σ m => ∃ (i : Nat) (n : Int) (fd : Bool) (q0 : Int) (q1 : Int) (q2 : Int) (q3 : Int) (q4 : Int) (q5 : Int) (q6 : ByteArray) (q7 : ByteArray) (q8 : ByteArray), σ = (Sr_latest_mail_1 k v u fd a8 (A.rlen a8) n 0 ByteArray.empty q0 q1 q2 q3 q4 q5 q6 q7 q8) ∧ (n = (i : Int) ∧ i ≤ List.length xs ∧ fd = Option.isSome (lat (mailIs k v u) bySeqB (xs.take i)) ∧ (⟨q0, ⟨q1, q2, q3, q4, q5, q6, q7, q8⟩⟩ : GItem) = Option.getD (lat (mailIs k v u) bySeqB (xs.take i)) zItem) ∧ m = List.length xs - i) _ [.up 8, .up 6] [1, 2, 6, 8, 9, 13, 14, 15] [6, 8] (Sr_latest_mail_1 k v u false a8 (A.rlen a8) 0 0 ByteArray.empty 0 0 0 0 0 0 ByteArray.empty ByteArray.empty ByteArray.empty) rfl (by cbv) ⟨0, 0, false, 0, 0, 0, 0, 0, 0, ByteArray.empty, ByteArray.empty, ByteArray.empty, rfl, ?_, rfl⟩ (fun σ m hI => ?_)
 ·
  exact ⟨rfl, Nat.zero_le _, rfl, rfl⟩
 obtain ⟨i, n, fd, q0, q1, q2, q3, q4, q5, q6, q7, q8, rfl, ⟨hn, hi, hF, hQ⟩, rfl⟩ := hI
 refine gx hA 1 ?_
 refine gs ?_
 refine go_cond rfl (fun c1 => ?_) (fun c1 => ?_)
 ·
  have ec1 : n < (A.rlen a8) := lss_t hA c1
  refine gk (gs ?_)
  refine go_block ?_
  refine gs (gr ?_)
  have b6 : (0 : Int) ≤ n := by
   omega
  have b7 : (Int.toNat n) < List.length xs := by
   omega
  obtain ⟨x2, hx2⟩ : ∃ x, (xs)[(Int.toNat n)]? = some x := ⟨_, List.getElem?_eq_getElem b7⟩
  have c2 := List.mem_of_getElem? hx2
  obtain ⟨a9, ⟨a4, a0, a7, a5, a1, a6, a2, a3⟩⟩ := x2
  have b9 : a8[(Int.toNat n)]? = some [.ii a9, .ii a4, .ii a0, .ii a7, .ii a5, .ii a1, .str a6, .str a2, .str a3] := by
   exact map_at eItem b4 hx2
  have b0 := hx2
  rw [hn] at b0
  have b0 : (xs)[i]? = some (⟨a9, ⟨a4, a0, a7, a5, a1, a6, a2, a3⟩⟩ : GItem) := b0
  refine ops_step rfl rfl (idx_sl rfl rfl rfl rfl rfl b6 rfl b9) ?_
  refine rz hA 3 ?_
  refine gs (gr (rn hA 3 ?_))
  obtain ⟨b5, b2, hc4⟩ : ∃ (b5 : Bool), b5 = (mailIs k v u (⟨a4, a0, a7, a5, a1, a6, a2, a3⟩ : GRec)) ∧ Real Tryz.prog 192 [.agg [.ii a4, .ii a0, .ii a7, .ii a5, .ii a1, .str a6, .str a2, .str a3], .rd [.ii k], .rd [.ii v], .rd [.ii u]] (.bool b5) := ⟨_, rfl, by exact r_mailItem_f A hA (⟨a4, a0, a7, a5, a1, a6, a2, a3⟩ : GRec) k v u ⟩
  refine ops_callV rfl rfl (by cbv) (by cbv) hc4 (.inr rfl) (by cbv) ?_
  refine rn hA 1 ?_
  refine ops_split 23 rfl (fun c5 => ?_) (fun c5 => ?_)
  ·
   refine rn hA 3 ?_
   refine ops_split 26 rfl (fun c6 => ?_) (fun c6 => ?_)
   ·
    have c7 : fd = false := bnot_t hA c6
    refine rz hA 6 ?_
    refine go_cond rfl (fun c8 => ?_) (fun c8 => ?_)
    ·
     refine gy hA 3 ?_
     refine gy hA 2 ?_
     refine ⟨(Sr_latest_mail_1 k v u true a8 (A.rlen a8) (A.num .add .i64 n 1) 0 ByteArray.empty a9 a4 a0 a7 a5 a1 a6 a2 a3), List.length xs - (i + 1), ?_, by cbv, i + 1, (A.num .add .i64 n 1), true, a9, a4, a0, a7, a5, a1, a6, a2, a3, rfl, ?_, rfl⟩
     ·
      omega
     refine ⟨by rw [add_i64 hA (by omega) (by omega)]; omega, by omega, ?_⟩
     rw [lat_at b0]
     rw [lat_new (by rw [← b2]; assumption) (by rw [← hF]; exact Eq.symm (by assumption))]
     exact ⟨rfl, rfl⟩
    exact no_f c8 (show true = true from by rfl)
   have c9 : fd = true := bnot_f hA c6
   refine rn hA 3 ?_
   obtain ⟨b1, b3, b8⟩ : ∃ (b1 : Bool), b1 = (bySeqB (⟨q0, ⟨q1, q2, q3, q4, q5, q6, q7, q8⟩⟩ : GItem) (⟨a9, ⟨a4, a0, a7, a5, a1, a6, a2, a3⟩⟩ : GItem)) ∧ Real Tryz.prog 170 [.agg [.ii q0, .ii q1, .ii q2, .ii q3, .ii q4, .ii q5, .str q6, .str q7, .str q8], .agg [.ii a9, .ii a4, .ii a0, .ii a7, .ii a5, .ii a1, .str a6, .str a2, .str a3]] (.bool b1) := ⟨_, rfl, by exact r_impl_bySeq A hA (⟨q0, ⟨q1, q2, q3, q4, q5, q6, q7, q8⟩⟩ : GItem) (⟨a9, ⟨a4, a0, a7, a5, a1, a6, a2, a3⟩⟩ : GItem) ⟩
   refine ops_callG rfl rfl rfl rfl (by cbv) (by cbv) b8 (.inr rfl) (by cbv) ?_
   refine rz hA 2 ?_
   refine go_cond rfl (fun c12 => ?_) (fun c12 => ?_)
   ·
    refine gy hA 3 ?_
    refine gy hA 2 ?_
    refine ⟨(Sr_latest_mail_1 k v u true a8 (A.rlen a8) (A.num .add .i64 n 1) 0 ByteArray.empty a9 a4 a0 a7 a5 a1 a6 a2 a3), List.length xs - (i + 1), ?_, by cbv, i + 1, (A.num .add .i64 n 1), true, a9, a4, a0, a7, a5, a1, a6, a2, a3, rfl, ?_, rfl⟩
    ·
     omega
    refine ⟨by rw [add_i64 hA (by omega) (by omega)]; omega, by omega, ?_⟩
    rw [lat_at b0]
    rw [lat_lt (by rw [← b2]; assumption) (by rw [← hF]; exact Eq.symm (by assumption)) hQ (by rw [← b3]; assumption)]
    exact ⟨rfl, rfl⟩
   refine gk (gy hA 2 ?_)
   refine ⟨(Sr_latest_mail_1 k v u fd a8 (A.rlen a8) (A.num .add .i64 n 1) 0 ByteArray.empty q0 q1 q2 q3 q4 q5 q6 q7 q8), List.length xs - (i + 1), ?_, by cbv, i + 1, (A.num .add .i64 n 1), fd, q0, q1, q2, q3, q4, q5, q6, q7, q8, rfl, ?_, rfl⟩
   ·
    omega
   refine ⟨by rw [add_i64 hA (by omega) (by omega)]; omega, by omega, ?_⟩
   rw [lat_at b0]
   rw [lat_ge (by rw [← hF]; exact Eq.symm (by assumption)) hQ (by rw [← b3]; assumption)]
   exact ⟨hF, hQ⟩
  refine rz hA 9 ?_
  refine go_cond rfl (fun c13 => ?_) (fun c13 => ?_)
  ·
   exact no_t c13 (show false = false from by rfl)
  refine gk (gy hA 2 ?_)
  refine ⟨(Sr_latest_mail_1 k v u fd a8 (A.rlen a8) (A.num .add .i64 n 1) 0 ByteArray.empty q0 q1 q2 q3 q4 q5 q6 q7 q8), List.length xs - (i + 1), ?_, by cbv, i + 1, (A.num .add .i64 n 1), fd, q0, q1, q2, q3, q4, q5, q6, q7, q8, rfl, ?_, rfl⟩
  ·
   omega
  refine ⟨by rw [add_i64 hA (by omega) (by omega)]; omega, by omega, ?_⟩
  rw [lat_at b0]
  rw [lat_no (by rw [← b2]; assumption)]
  exact ⟨hF, hQ⟩
 have ec1 : (A.rlen a8) ≤ n := lss_f hA c1
 refine go_exit ⟨fun _ => ?_, fun h => absurd rfl h⟩
 refine gx hA 4 ?_
 refine go_ret ⟨_, by cbv, ?_⟩
 show _ = PV.tup [.agg [.ii q0, .ii q1, .ii q2, .ii q3, .ii q4, .ii q5, .str q6, .str q7, .str q8], .bool fd]
 rw [List.take_of_length_le (by omega)] at hF hQ
 rw [← hF, ← hQ]
 rfl
def Sr_latest_drop_1 (p0 : Int) (p1 : Bool) (p2 : RR) (p3 : Int) (p4 : Int) (p5 : Int) (p6 : ByteArray) (p7 : Int) (p8 : Int) (p9 : Int) (p10 : Int) (p11 : Int) (p12 : Int) (p13 : ByteArray) (p14 : ByteArray) (p15 : ByteArray) : St := { sl := [.bad, .fn 168 [.rd [.ii p0]], .fn 170 [], .bad, .bad, .bad, .pt 6 0 0, .bad, .pt 8 0 0, .bool p1, .bad, .bad, .bad, .sl 9 p2, .ii p3, .ii p4, .bad, .bad, .bad, .bad, .bad, .bad, .bad, .bad, .bad, .bad, .bad, .bad, .bad, .bad, .bad, .bad, .bad, .bad, .bad, .bad, .bad], bl := [(6, ⟨.var, 9, [[.ii p5, .ii p5, .ii p5, .ii p5, .ii p5, .ii p5, .str p6, .str p6, .str p6]]⟩), (8, ⟨.var, 9, [[.ii p7, .ii p8, .ii p9, .ii p10, .ii p11, .ii p12, .str p13, .str p14, .str p15]]⟩)] }
theorem r_latest_drop (A : Alg) (hA : A = std) (xs : List GItem) (v : Int) (hx : (List.length xs : Int) ≤ 4611686018427387904) : Real Tryz.prog 167 [.sl 9 (List.map eItem xs), .fn 168 [.rd [.ii v]], .fn 170 []] (.tup [.agg (eItem (Option.getD (lat (kindIs 2 v) bySeqB xs) zItem)), .bool (Option.isSome (lat (kindIs 2 v) bySeqB xs))]) := by
 obtain ⟨a8, b4⟩ := nm (xs.map eItem)
 have c0 := rlen_map hA b4
 refine real_args (args' := [.sl 9 a8, .fn 168 [.rd [.ii v]], .fn 170 []]) (by subst b4; rfl) ?_
 refine real tyOk Tryz.func167 (by kernel_rfl) (afun_of rfl ?_)
 refine gx hA 2 ?_
 refine gx hA 4 ?_
 refine gs (gx hA 3 ?_)
 refine go_block ?_
 refine go_loopE (fun σ m => ∃ (i : Nat) (n : Int) (fd : Bool) (q0 : Int) (q1 : Int) (q2 : Int) (q3 : Int) (q4 : Int) (q5 : Int) (q6 : ByteArray) (q7 : ByteArray) (q8 : ByteArray), σ = (Sr_latest_drop_1 v fd a8 (A.rlen a8) n 0 ByteArray.empty q0 q1 q2 q3 q4 q5 q6 q7 q8) ∧ (n = (i : Int) ∧ i ≤ List.length xs ∧ fd = Option.isSome (lat (kindIs 2 v) bySeqB (xs.take i)) ∧ (⟨q0, ⟨q1, q2, q3, q4, q5, q6, q7, q8⟩⟩ : GItem) = Option.getD (lat (kindIs 2 v) bySeqB (xs.take i)) zItem) ∧ m = List.length xs - i) _ [.up 8, .up 6] [1, 2, 6, 8, 9, 13, 14, 15] [6, 8] (Sr_latest_drop_1 v false a8 (A.rlen a8) 0 0 ByteArray.empty 0 0 0 0 0 0 ByteArray.empty ByteArray.empty ByteArray.empty) rfl (by cbv) ⟨0, 0, false, 0, 0, 0, 0, 0, 0, ByteArray.empty, ByteArray.empty, ByteArray.empty, rfl, ?_, rfl⟩ (fun σ m hI => ?_)
 ·
  exact ⟨rfl, Nat.zero_le _, rfl, rfl⟩
 obtain ⟨i, n, fd, q0, q1, q2, q3, q4, q5, q6, q7, q8, rfl, ⟨hn, hi, hF, hQ⟩, rfl⟩ := hI
 refine gx hA 1 ?_
 refine gs ?_
 refine go_cond rfl (fun c1 => ?_) (fun c1 => ?_)
 ·
  have ec1 : n < (A.rlen a8) := lss_t hA c1
  refine gk (gs ?_)
  refine go_block ?_
  refine gs (gr ?_)
  have b6 : (0 : Int) ≤ n := by
   omega
  have b7 : (Int.toNat n) < List.length xs := by
   omega
  obtain ⟨x2, hx2⟩ : ∃ x, (xs)[(Int.toNat n)]? = some x := ⟨_, List.getElem?_eq_getElem b7⟩
  have c2 := List.mem_of_getElem? hx2
  obtain ⟨a9, ⟨a4, a0, a7, a5, a1, a6, a2, a3⟩⟩ := x2
  have b9 : a8[(Int.toNat n)]? = some [.ii a9, .ii a4, .ii a0, .ii a7, .ii a5, .ii a1, .str a6, .str a2, .str a3] := by
   exact map_at eItem b4 hx2
  have b0 := hx2
  rw [hn] at b0
  have b0 : (xs)[i]? = some (⟨a9, ⟨a4, a0, a7, a5, a1, a6, a2, a3⟩⟩ : GItem) := b0
  refine ops_step rfl rfl (idx_sl rfl rfl rfl rfl rfl b6 rfl b9) ?_
  refine rz hA 3 ?_
  refine gs (gr (rn hA 3 ?_))
  obtain ⟨b5, b2, hc4⟩ : ∃ (b5 : Bool), b5 = (kindIs 2 v (⟨a4, a0, a7, a5, a1, a6, a2, a3⟩ : GRec)) ∧ Real Tryz.prog 168 [.agg [.ii a4, .ii a0, .ii a7, .ii a5, .ii a1, .str a6, .str a2, .str a3], .rd [.ii v]] (.bool b5) := ⟨_, rfl, by exact r_boxThere_f A hA (⟨a4, a0, a7, a5, a1, a6, a2, a3⟩ : GRec) v ⟩
  refine ops_callV rfl rfl (by cbv) (by cbv) hc4 (.inr rfl) (by cbv) ?_
  refine rn hA 1 ?_
  refine ops_split 23 rfl (fun c5 => ?_) (fun c5 => ?_)
  ·
   refine rn hA 3 ?_
   refine ops_split 26 rfl (fun c6 => ?_) (fun c6 => ?_)
   ·
    have c7 : fd = false := bnot_t hA c6
    refine rz hA 6 ?_
    refine go_cond rfl (fun c8 => ?_) (fun c8 => ?_)
    ·
     refine gy hA 3 ?_
     refine gy hA 2 ?_
     refine ⟨(Sr_latest_drop_1 v true a8 (A.rlen a8) (A.num .add .i64 n 1) 0 ByteArray.empty a9 a4 a0 a7 a5 a1 a6 a2 a3), List.length xs - (i + 1), ?_, by cbv, i + 1, (A.num .add .i64 n 1), true, a9, a4, a0, a7, a5, a1, a6, a2, a3, rfl, ?_, rfl⟩
     ·
      omega
     refine ⟨by rw [add_i64 hA (by omega) (by omega)]; omega, by omega, ?_⟩
     rw [lat_at b0]
     rw [lat_new (by rw [← b2]; assumption) (by rw [← hF]; exact Eq.symm (by assumption))]
     exact ⟨rfl, rfl⟩
    exact no_f c8 (show true = true from by rfl)
   have c9 : fd = true := bnot_f hA c6
   refine rn hA 3 ?_
   obtain ⟨b1, b3, b8⟩ : ∃ (b1 : Bool), b1 = (bySeqB (⟨q0, ⟨q1, q2, q3, q4, q5, q6, q7, q8⟩⟩ : GItem) (⟨a9, ⟨a4, a0, a7, a5, a1, a6, a2, a3⟩⟩ : GItem)) ∧ Real Tryz.prog 170 [.agg [.ii q0, .ii q1, .ii q2, .ii q3, .ii q4, .ii q5, .str q6, .str q7, .str q8], .agg [.ii a9, .ii a4, .ii a0, .ii a7, .ii a5, .ii a1, .str a6, .str a2, .str a3]] (.bool b1) := ⟨_, rfl, by exact r_impl_bySeq A hA (⟨q0, ⟨q1, q2, q3, q4, q5, q6, q7, q8⟩⟩ : GItem) (⟨a9, ⟨a4, a0, a7, a5, a1, a6, a2, a3⟩⟩ : GItem) ⟩
   refine ops_callG rfl rfl rfl rfl (by cbv) (by cbv) b8 (.inr rfl) (by cbv) ?_
   refine rz hA 2 ?_
   refine go_cond rfl (fun c12 => ?_) (fun c12 => ?_)
   ·
    refine gy hA 3 ?_
    refine gy hA 2 ?_
    refine ⟨(Sr_latest_drop_1 v true a8 (A.rlen a8) (A.num .add .i64 n 1) 0 ByteArray.empty a9 a4 a0 a7 a5 a1 a6 a2 a3), List.length xs - (i + 1), ?_, by cbv, i + 1, (A.num .add .i64 n 1), true, a9, a4, a0, a7, a5, a1, a6, a2, a3, rfl, ?_, rfl⟩
    ·
     omega
    refine ⟨by rw [add_i64 hA (by omega) (by omega)]; omega, by omega, ?_⟩
    rw [lat_at b0]
    rw [lat_lt (by rw [← b2]; assumption) (by rw [← hF]; exact Eq.symm (by assumption)) hQ (by rw [← b3]; assumption)]
    exact ⟨rfl, rfl⟩
   refine gk (gy hA 2 ?_)
   refine ⟨(Sr_latest_drop_1 v fd a8 (A.rlen a8) (A.num .add .i64 n 1) 0 ByteArray.empty q0 q1 q2 q3 q4 q5 q6 q7 q8), List.length xs - (i + 1), ?_, by cbv, i + 1, (A.num .add .i64 n 1), fd, q0, q1, q2, q3, q4, q5, q6, q7, q8, rfl, ?_, rfl⟩
   ·
    omega
   refine ⟨by rw [add_i64 hA (by omega) (by omega)]; omega, by omega, ?_⟩
   rw [lat_at b0]
   rw [lat_ge (by rw [← hF]; exact Eq.symm (by assumption)) hQ (by rw [← b3]; assumption)]
   exact ⟨hF, hQ⟩
  refine rz hA 9 ?_
  refine go_cond rfl (fun c13 => ?_) (fun c13 => ?_)
  ·
   exact no_t c13 (show false = false from by rfl)
  refine gk (gy hA 2 ?_)
  refine ⟨(Sr_latest_drop_1 v fd a8 (A.rlen a8) (A.num .add .i64 n 1) 0 ByteArray.empty q0 q1 q2 q3 q4 q5 q6 q7 q8), List.length xs - (i + 1), ?_, by cbv, i + 1, (A.num .add .i64 n 1), fd, q0, q1, q2, q3, q4, q5, q6, q7, q8, rfl, ?_, rfl⟩
  ·
   omega
  refine ⟨by rw [add_i64 hA (by omega) (by omega)]; omega, by omega, ?_⟩
  rw [lat_at b0]
  rw [lat_no (by rw [← b2]; assumption)]
  exact ⟨hF, hQ⟩
 have ec1 : (A.rlen a8) ≤ n := lss_f hA c1
 refine go_exit ⟨fun _ => ?_, fun h => absurd rfl h⟩
 refine gx hA 4 ?_
 refine go_ret ⟨_, by cbv, ?_⟩
 show _ = PV.tup [.agg [.ii q0, .ii q1, .ii q2, .ii q3, .ii q4, .ii q5, .str q6, .str q7, .str q8], .bool fd]
 rw [List.take_of_length_le (by omega)] at hF hQ
 rw [← hF, ← hQ]
 rfl
def Sr_latest_box_1 (p0 : Int) (p1 : Bool) (p2 : RR) (p3 : Int) (p4 : Int) (p5 : Int) (p6 : ByteArray) (p7 : Int) (p8 : Int) (p9 : Int) (p10 : Int) (p11 : Int) (p12 : Int) (p13 : ByteArray) (p14 : ByteArray) (p15 : ByteArray) : St := { sl := [.bad, .fn 171 [.rd [.ii p0]], .fn 172 [], .bad, .bad, .bad, .pt 6 0 0, .bad, .pt 8 0 0, .bool p1, .bad, .bad, .bad, .sl 9 p2, .ii p3, .ii p4, .bad, .bad, .bad, .bad, .bad, .bad, .bad, .bad, .bad, .bad, .bad, .bad, .bad, .bad, .bad, .bad, .bad, .bad, .bad, .bad, .bad], bl := [(6, ⟨.var, 9, [[.ii p5, .ii p5, .ii p5, .ii p5, .ii p5, .ii p5, .str p6, .str p6, .str p6]]⟩), (8, ⟨.var, 9, [[.ii p7, .ii p8, .ii p9, .ii p10, .ii p11, .ii p12, .str p13, .str p14, .str p15]]⟩)] }
theorem r_latest_box (A : Alg) (hA : A = std) (xs : List GItem) (v : Int) (hx : (List.length xs : Int) ≤ 4611686018427387904) : Real Tryz.prog 167 [.sl 9 (List.map eItem xs), .fn 171 [.rd [.ii v]], .fn 172 []] (.tup [.agg (eItem (Option.getD (lat (kindIs 1 v) byNextB xs) zItem)), .bool (Option.isSome (lat (kindIs 1 v) byNextB xs))]) := by
 obtain ⟨a8, b4⟩ := nm (xs.map eItem)
 have c0 := rlen_map hA b4
 refine real_args (args' := [.sl 9 a8, .fn 171 [.rd [.ii v]], .fn 172 []]) (by subst b4; rfl) ?_
 refine real tyOk Tryz.func167 (by kernel_rfl) (afun_of rfl ?_)
 refine gx hA 2 ?_
 refine gx hA 4 ?_
 refine gs (gx hA 3 ?_)
 refine go_block ?_
 refine go_loopE (fun σ m => ∃ (i : Nat) (n : Int) (fd : Bool) (q0 : Int) (q1 : Int) (q2 : Int) (q3 : Int) (q4 : Int) (q5 : Int) (q6 : ByteArray) (q7 : ByteArray) (q8 : ByteArray), σ = (Sr_latest_box_1 v fd a8 (A.rlen a8) n 0 ByteArray.empty q0 q1 q2 q3 q4 q5 q6 q7 q8) ∧ (n = (i : Int) ∧ i ≤ List.length xs ∧ fd = Option.isSome (lat (kindIs 1 v) byNextB (xs.take i)) ∧ (⟨q0, ⟨q1, q2, q3, q4, q5, q6, q7, q8⟩⟩ : GItem) = Option.getD (lat (kindIs 1 v) byNextB (xs.take i)) zItem) ∧ m = List.length xs - i) _ [.up 8, .up 6] [1, 2, 6, 8, 9, 13, 14, 15] [6, 8] (Sr_latest_box_1 v false a8 (A.rlen a8) 0 0 ByteArray.empty 0 0 0 0 0 0 ByteArray.empty ByteArray.empty ByteArray.empty) rfl (by cbv) ⟨0, 0, false, 0, 0, 0, 0, 0, 0, ByteArray.empty, ByteArray.empty, ByteArray.empty, rfl, ?_, rfl⟩ (fun σ m hI => ?_)
 ·
  exact ⟨rfl, Nat.zero_le _, rfl, rfl⟩
 obtain ⟨i, n, fd, q0, q1, q2, q3, q4, q5, q6, q7, q8, rfl, ⟨hn, hi, hF, hQ⟩, rfl⟩ := hI
 refine gx hA 1 ?_
 refine gs ?_
 refine go_cond rfl (fun c1 => ?_) (fun c1 => ?_)
 ·
  have ec1 : n < (A.rlen a8) := lss_t hA c1
  refine gk (gs ?_)
  refine go_block ?_
  refine gs (gr ?_)
  have b6 : (0 : Int) ≤ n := by
   omega
  have b7 : (Int.toNat n) < List.length xs := by
   omega
  obtain ⟨x2, hx2⟩ : ∃ x, (xs)[(Int.toNat n)]? = some x := ⟨_, List.getElem?_eq_getElem b7⟩
  have c2 := List.mem_of_getElem? hx2
  obtain ⟨a9, ⟨a4, a0, a7, a5, a1, a6, a2, a3⟩⟩ := x2
  have b9 : a8[(Int.toNat n)]? = some [.ii a9, .ii a4, .ii a0, .ii a7, .ii a5, .ii a1, .str a6, .str a2, .str a3] := by
   exact map_at eItem b4 hx2
  have b0 := hx2
  rw [hn] at b0
  have b0 : (xs)[i]? = some (⟨a9, ⟨a4, a0, a7, a5, a1, a6, a2, a3⟩⟩ : GItem) := b0
  refine ops_step rfl rfl (idx_sl rfl rfl rfl rfl rfl b6 rfl b9) ?_
  refine rz hA 3 ?_
  refine gs (gr (rn hA 3 ?_))
  obtain ⟨b5, b2, hc4⟩ : ∃ (b5 : Bool), b5 = (kindIs 1 v (⟨a4, a0, a7, a5, a1, a6, a2, a3⟩ : GRec)) ∧ Real Tryz.prog 171 [.agg [.ii a4, .ii a0, .ii a7, .ii a5, .ii a1, .str a6, .str a2, .str a3], .rd [.ii v]] (.bool b5) := ⟨_, rfl, by exact r_boxThere_g A hA (⟨a4, a0, a7, a5, a1, a6, a2, a3⟩ : GRec) v ⟩
  refine ops_callV rfl rfl (by cbv) (by cbv) hc4 (.inr rfl) (by cbv) ?_
  refine rn hA 1 ?_
  refine ops_split 23 rfl (fun c5 => ?_) (fun c5 => ?_)
  ·
   refine rn hA 3 ?_
   refine ops_split 26 rfl (fun c6 => ?_) (fun c6 => ?_)
   ·
    have c7 : fd = false := bnot_t hA c6
    refine rz hA 6 ?_
    refine go_cond rfl (fun c8 => ?_) (fun c8 => ?_)
    ·
     refine gy hA 3 ?_
     refine gy hA 2 ?_
     refine ⟨(Sr_latest_box_1 v true a8 (A.rlen a8) (A.num .add .i64 n 1) 0 ByteArray.empty a9 a4 a0 a7 a5 a1 a6 a2 a3), List.length xs - (i + 1), ?_, by cbv, i + 1, (A.num .add .i64 n 1), true, a9, a4, a0, a7, a5, a1, a6, a2, a3, rfl, ?_, rfl⟩
     ·
      omega
     refine ⟨by rw [add_i64 hA (by omega) (by omega)]; omega, by omega, ?_⟩
     rw [lat_at b0]
     rw [lat_new (by rw [← b2]; assumption) (by rw [← hF]; exact Eq.symm (by assumption))]
     exact ⟨rfl, rfl⟩
    exact no_f c8 (show true = true from by rfl)
   have c9 : fd = true := bnot_f hA c6
   refine rn hA 3 ?_
   obtain ⟨b1, b3, b8⟩ : ∃ (b1 : Bool), b1 = (byNextB (⟨q0, ⟨q1, q2, q3, q4, q5, q6, q7, q8⟩⟩ : GItem) (⟨a9, ⟨a4, a0, a7, a5, a1, a6, a2, a3⟩⟩ : GItem)) ∧ Real Tryz.prog 172 [.agg [.ii q0, .ii q1, .ii q2, .ii q3, .ii q4, .ii q5, .str q6, .str q7, .str q8], .agg [.ii a9, .ii a4, .ii a0, .ii a7, .ii a5, .ii a1, .str a6, .str a2, .str a3]] (.bool b1) := ⟨_, rfl, by exact r_impl_byNext A hA (⟨q0, ⟨q1, q2, q3, q4, q5, q6, q7, q8⟩⟩ : GItem) (⟨a9, ⟨a4, a0, a7, a5, a1, a6, a2, a3⟩⟩ : GItem) ⟩
   refine ops_callG rfl rfl rfl rfl (by cbv) (by cbv) b8 (.inr rfl) (by cbv) ?_
   refine rz hA 2 ?_
   refine go_cond rfl (fun c12 => ?_) (fun c12 => ?_)
   ·
    refine gy hA 3 ?_
    refine gy hA 2 ?_
    refine ⟨(Sr_latest_box_1 v true a8 (A.rlen a8) (A.num .add .i64 n 1) 0 ByteArray.empty a9 a4 a0 a7 a5 a1 a6 a2 a3), List.length xs - (i + 1), ?_, by cbv, i + 1, (A.num .add .i64 n 1), true, a9, a4, a0, a7, a5, a1, a6, a2, a3, rfl, ?_, rfl⟩
    ·
     omega
    refine ⟨by rw [add_i64 hA (by omega) (by omega)]; omega, by omega, ?_⟩
    rw [lat_at b0]
    rw [lat_lt (by rw [← b2]; assumption) (by rw [← hF]; exact Eq.symm (by assumption)) hQ (by rw [← b3]; assumption)]
    exact ⟨rfl, rfl⟩
   refine gk (gy hA 2 ?_)
   refine ⟨(Sr_latest_box_1 v fd a8 (A.rlen a8) (A.num .add .i64 n 1) 0 ByteArray.empty q0 q1 q2 q3 q4 q5 q6 q7 q8), List.length xs - (i + 1), ?_, by cbv, i + 1, (A.num .add .i64 n 1), fd, q0, q1, q2, q3, q4, q5, q6, q7, q8, rfl, ?_, rfl⟩
   ·
    omega
   refine ⟨by rw [add_i64 hA (by omega) (by omega)]; omega, by omega, ?_⟩
   rw [lat_at b0]
   rw [lat_ge (by rw [← hF]; exact Eq.symm (by assumption)) hQ (by rw [← b3]; assumption)]
   exact ⟨hF, hQ⟩
  refine rz hA 9 ?_
  refine go_cond rfl (fun c13 => ?_) (fun c13 => ?_)
  ·
   exact no_t c13 (show false = false from by rfl)
  refine gk (gy hA 2 ?_)
  refine ⟨(Sr_latest_box_1 v fd a8 (A.rlen a8) (A.num .add .i64 n 1) 0 ByteArray.empty q0 q1 q2 q3 q4 q5 q6 q7 q8), List.length xs - (i + 1), ?_, by cbv, i + 1, (A.num .add .i64 n 1), fd, q0, q1, q2, q3, q4, q5, q6, q7, q8, rfl, ?_, rfl⟩
  ·
   omega
  refine ⟨by rw [add_i64 hA (by omega) (by omega)]; omega, by omega, ?_⟩
  rw [lat_at b0]
  rw [lat_no (by rw [← b2]; assumption)]
  exact ⟨hF, hQ⟩
 have ec1 : (A.rlen a8) ≤ n := lss_f hA c1
 refine go_exit ⟨fun _ => ?_, fun h => absurd rfl h⟩
 refine gx hA 4 ?_
 refine go_ret ⟨_, by cbv, ?_⟩
 show _ = PV.tup [.agg [.ii q0, .ii q1, .ii q2, .ii q3, .ii q4, .ii q5, .str q6, .str q7, .str q8], .bool fd]
 rw [List.take_of_length_le (by omega)] at hF hQ
 rw [← hF, ← hQ]
 rfl
end Go.Av
namespace Go.Av
open Go Go.Proofs
set_option maxRecDepth 100000
set_option maxHeartbeats 4000000
set_option linter.unusedVariables false
set_option linter.unusedSimpArgs false
theorem r_impl_mailItem (A : Alg) (hA : A = std) (xs : List GItem) (k : Int) (v : Int) (u : Int)  (hx : (List.length xs : Int) ≤ 4611686018427387904) : Real Tryz.prog 175 [.sl 9 (List.map eItem xs), .ii k, .ii v, .ii u] (.tup [.agg (eItem (Option.getD (lat (mailIs k v u) bySeqB xs) zItem)), .bool (Option.isSome (lat (mailIs k v u) bySeqB xs))]) := by
 obtain ⟨j0, c2⟩ := nm (xs.map eItem)
 have n9 := rlen_map hA c2
 refine real_args (args' := [.sl 9 j0, .ii k, .ii v, .ii u]) (by subst c2; rfl) ?_
 refine real tyOk Tryz.func175 (by kernel_rfl) (afun_of rfl ?_)
 refine gx hA 5 ?_
 refine gs (gr (rn hA 2 ?_))
 obtain ⟨g4, b7, a1, c6, b2, a0, a6, b1, b4, l0, n3, l7, k1, m9, m7, k2, m5, l8, l4, n7, hc2⟩ : ∃ (g4 : Int) (b7 : Int) (a1 : Int) (c6 : Int) (b2 : Int) (a0 : Int) (a6 : ByteArray) (b1 : ByteArray) (b4 : ByteArray) (l0 : Bool), g4 = ((Option.getD (lat (mailIs k v u) bySeqB xs) zItem).Seq) ∧ b7 = (((Option.getD (lat (mailIs k v u) bySeqB xs) zItem).Rec).Kind) ∧ a1 = (((Option.getD (lat (mailIs k v u) bySeqB xs) zItem).Rec).Valid) ∧ c6 = (((Option.getD (lat (mailIs k v u) bySeqB xs) zItem).Rec).Uid) ∧ b2 = (((Option.getD (lat (mailIs k v u) bySeqB xs) zItem).Rec).Next) ∧ a0 = (((Option.getD (lat (mailIs k v u) bySeqB xs) zItem).Rec).Flags) ∧ a6 = (((Option.getD (lat (mailIs k v u) bySeqB xs) zItem).Rec).User) ∧ b1 = (((Option.getD (lat (mailIs k v u) bySeqB xs) zItem).Rec).Name) ∧ b4 = (((Option.getD (lat (mailIs k v u) bySeqB xs) zItem).Rec).Text) ∧ l0 = (Option.isSome (lat (mailIs k v u) bySeqB xs)) ∧ Real Tryz.prog 167 [.sl 9 j0, .fn 192 [.rd [.ii k], .rd [.ii v], .rd [.ii u]], .fn 170 []] (.tup [.agg [.ii g4, .ii b7, .ii a1, .ii c6, .ii b2, .ii a0, .str a6, .str b1, .str b4], .bool l0]) := ⟨_, _, _, _, _, _, _, _, _, _, rfl, rfl, rfl, rfl, rfl, rfl, rfl, rfl, rfl, rfl, by subst c2; exact r_latest_mail A hA xs k v u (by assumption)⟩
 refine ops_callV rfl rfl (by cbv) (by cbv) hc2 (.inl (by simp only [fresh, freshL, and_self])) (by cbv) ?_
 refine rz hA 4 ?_
 refine go_ret ⟨_, by cbv, ?_⟩
 show _ = PV.tup [.agg [.ii g4, .ii b7, .ii a1, .ii c6, .ii b2, .ii a0, .str a6, .str b1, .str b4], .bool l0]
 simp only [n3, l7, k1, m9, m7, k2, m5, l8, l4, n7]
 rfl
theorem r_impl_boxThere (A : Alg) (hA : A = std) (xs : List GItem) (v : Int)  (hx : (List.length xs : Int) ≤ 4611686018427387904) : Real Tryz.prog 134 [.sl 9 (List.map eItem xs), .ii v] (.tup [.agg (eItem (Option.getD (boxAt v xs) zItem)), .bool (Option.isSome (boxAt v xs))]) := by
 obtain ⟨j0, c2⟩ := nm (xs.map eItem)
 have n9 := rlen_map hA c2
 refine real_args (args' := [.sl 9 j0, .ii v]) (by subst c2; rfl) ?_
 refine real tyOk Tryz.func134 (by kernel_rfl) (afun_of rfl ?_)
 refine gx hA 3 ?_
 refine gs (gs (gr (rn hA 2 ?_)))
 obtain ⟨j6, e5, d8, f8, f5, d7, f3, f4, e8, n2, k5, i1, g8, j1, i7, g6, i9, i5, i2, j8, hc2⟩ : ∃ (j6 : Int) (e5 : Int) (d8 : Int) (f8 : Int) (f5 : Int) (d7 : Int) (f3 : ByteArray) (f4 : ByteArray) (e8 : ByteArray) (n2 : Bool), j6 = ((Option.getD (lat (kindIs 2 v) bySeqB xs) zItem).Seq) ∧ e5 = (((Option.getD (lat (kindIs 2 v) bySeqB xs) zItem).Rec).Kind) ∧ d8 = (((Option.getD (lat (kindIs 2 v) bySeqB xs) zItem).Rec).Valid) ∧ f8 = (((Option.getD (lat (kindIs 2 v) bySeqB xs) zItem).Rec).Uid) ∧ f5 = (((Option.getD (lat (kindIs 2 v) bySeqB xs) zItem).Rec).Next) ∧ d7 = (((Option.getD (lat (kindIs 2 v) bySeqB xs) zItem).Rec).Flags) ∧ f3 = (((Option.getD (lat (kindIs 2 v) bySeqB xs) zItem).Rec).User) ∧ f4 = (((Option.getD (lat (kindIs 2 v) bySeqB xs) zItem).Rec).Name) ∧ e8 = (((Option.getD (lat (kindIs 2 v) bySeqB xs) zItem).Rec).Text) ∧ n2 = (Option.isSome (lat (kindIs 2 v) bySeqB xs)) ∧ Real Tryz.prog 167 [.sl 9 j0, .fn 168 [.rd [.ii v]], .fn 170 []] (.tup [.agg [.ii j6, .ii e5, .ii d8, .ii f8, .ii f5, .ii d7, .str f3, .str f4, .str e8], .bool n2]) := ⟨_, _, _, _, _, _, _, _, _, _, rfl, rfl, rfl, rfl, rfl, rfl, rfl, rfl, rfl, rfl, by subst c2; exact r_latest_drop A hA xs v (by assumption)⟩
 refine ops_callV rfl rfl (by cbv) (by cbv) hc2 (.inl (by simp only [fresh, freshL, and_self])) (by cbv) ?_
 refine rz hA 6 ?_
 refine gx hA 1 ?_
 refine go_cond rfl (fun c3 => ?_) (fun c3 => ?_)
 ·
  refine gx hA 3 ?_
  refine go_ret ⟨_, by cbv, ?_⟩
  show _ = PV.tup [.agg [.ii 0, .ii 0, .ii 0, .ii 0, .ii 0, .ii 0, .str ByteArray.empty, .str ByteArray.empty, .str ByteArray.empty], .bool false]
  have k9 : (Option.isSome (lat (kindIs 2 v) bySeqB xs)) = true := by rw [← j8]; assumption
  rw [boxAt, if_pos (k9)]
  try simp only [k5, i1, g8, j1, i7, g6, i9, i5, i2, j8]
  rfl
 refine gk (gs (gr (rn hA 2 ?_)))
 obtain ⟨g3, c0, a5, c1, b3, a3, b0, a9, a8, l1, n5, m4, k8, n0, l3, k3, l6, l5, l9, n6, hc5⟩ : ∃ (g3 : Int) (c0 : Int) (a5 : Int) (c1 : Int) (b3 : Int) (a3 : Int) (b0 : ByteArray) (a9 : ByteArray) (a8 : ByteArray) (l1 : Bool), g3 = ((Option.getD (lat (kindIs 1 v) byNextB xs) zItem).Seq) ∧ c0 = (((Option.getD (lat (kindIs 1 v) byNextB xs) zItem).Rec).Kind) ∧ a5 = (((Option.getD (lat (kindIs 1 v) byNextB xs) zItem).Rec).Valid) ∧ c1 = (((Option.getD (lat (kindIs 1 v) byNextB xs) zItem).Rec).Uid) ∧ b3 = (((Option.getD (lat (kindIs 1 v) byNextB xs) zItem).Rec).Next) ∧ a3 = (((Option.getD (lat (kindIs 1 v) byNextB xs) zItem).Rec).Flags) ∧ b0 = (((Option.getD (lat (kindIs 1 v) byNextB xs) zItem).Rec).User) ∧ a9 = (((Option.getD (lat (kindIs 1 v) byNextB xs) zItem).Rec).Name) ∧ a8 = (((Option.getD (lat (kindIs 1 v) byNextB xs) zItem).Rec).Text) ∧ l1 = (Option.isSome (lat (kindIs 1 v) byNextB xs)) ∧ Real Tryz.prog 167 [.sl 9 j0, .fn 171 [.rd [.ii v]], .fn 172 []] (.tup [.agg [.ii g3, .ii c0, .ii a5, .ii c1, .ii b3, .ii a3, .str b0, .str a9, .str a8], .bool l1]) := ⟨_, _, _, _, _, _, _, _, _, _, rfl, rfl, rfl, rfl, rfl, rfl, rfl, rfl, rfl, rfl, by subst c2; exact r_latest_box A hA xs v (by assumption)⟩
 refine ops_callV rfl rfl (by cbv) (by cbv) hc5 (.inl (by simp only [fresh, freshL, and_self])) (by cbv) ?_
 refine rz hA 4 ?_
 refine go_ret ⟨_, by cbv, ?_⟩
 show _ = PV.tup [.agg [.ii g3, .ii c0, .ii a5, .ii c1, .ii b3, .ii a3, .str b0, .str a9, .str a8], .bool l1]
 have k9 : (Option.isSome (lat (kindIs 2 v) bySeqB xs)) = false := by rw [← j8]; assumption
 rw [boxAt, if_neg (by rw [k9]; decide)]
 try simp only [k5, i1, g8, j1, i7, g6, i9, i5, i2, j8, n5, m4, k8, n0, l3, k3, l6, l5, l9, n6]
 rfl
theorem r_impl_mailThere (A : Alg) (hA : A = std) (xs : List GItem) (v : Int) (u : Int)  (hx : (List.length xs : Int) ≤ 4611686018427387904) : Real Tryz.prog 174 [.sl 9 (List.map eItem xs), .ii v, .ii u] (.tup [.agg (eItem (Option.getD (mailAt v u xs) zItem)), .bool (Option.isSome (mailAt v u xs))]) := by
 obtain ⟨j0, c2⟩ := nm (xs.map eItem)
 have n9 := rlen_map hA c2
 refine real_args (args' := [.sl 9 j0, .ii v, .ii u]) (by subst c2; rfl) ?_
 refine real tyOk Tryz.func174 (by kernel_rfl) (afun_of rfl ?_)
 refine gx hA 2 ?_
 refine gs (gs (gr (rn hA 2 ?_)))
 obtain ⟨j5, f6, d3, g0, e7, d1, f1, f0, e2, j7, j2, d6, d0, e9, d9, c9, d2, d5, d4, g1, hc2⟩ : ∃ (j5 : Int) (f6 : Int) (d3 : Int) (g0 : Int) (e7 : Int) (d1 : Int) (f1 : ByteArray) (f0 : ByteArray) (e2 : ByteArray) (j7 : Bool), j5 = ((Option.getD (boxAt v xs) zItem).Seq) ∧ f6 = (((Option.getD (boxAt v xs) zItem).Rec).Kind) ∧ d3 = (((Option.getD (boxAt v xs) zItem).Rec).Valid) ∧ g0 = (((Option.getD (boxAt v xs) zItem).Rec).Uid) ∧ e7 = (((Option.getD (boxAt v xs) zItem).Rec).Next) ∧ d1 = (((Option.getD (boxAt v xs) zItem).Rec).Flags) ∧ f1 = (((Option.getD (boxAt v xs) zItem).Rec).User) ∧ f0 = (((Option.getD (boxAt v xs) zItem).Rec).Name) ∧ e2 = (((Option.getD (boxAt v xs) zItem).Rec).Text) ∧ j7 = (Option.isSome (boxAt v xs)) ∧ Real Tryz.prog 134 [.sl 9 j0, .ii v] (.tup [.agg [.ii j5, .ii f6, .ii d3, .ii g0, .ii e7, .ii d1, .str f1, .str f0, .str e2], .bool j7]) := ⟨_, _, _, _, _, _, _, _, _, _, rfl, rfl, rfl, rfl, rfl, rfl, rfl, rfl, rfl, rfl, by subst c2; exact r_impl_boxThere A hA xs v (by assumption)⟩
 refine ops_callV rfl rfl (by cbv) (by cbv) hc2 (.inr rfl) (by cbv) ?_
 refine rz hA 6 ?_
 refine gx hA 2 ?_
 refine go_cond rfl (fun c3 => ?_) (fun c3 => ?_)
 ·
  have c4 : j7 = false := bnot_t hA c3
  refine gx hA 3 ?_
  refine go_ret ⟨_, by cbv, ?_⟩
  show _ = PV.tup [.agg [.ii 0, .ii 0, .ii 0, .ii 0, .ii 0, .ii 0, .str ByteArray.empty, .str ByteArray.empty, .str ByteArray.empty], .bool false]
  have g5 : (Option.isSome (boxAt v xs)) = false := by rw [← g1]; assumption
  rw [mailAt, if_neg (by rw [g5]; decide)]
  try simp only [j2, d6, d0, e9, d9, c9, d2, d5, d4, g1]
  rfl
 have c5 : j7 = true := bnot_f hA c3
 refine gk (gs (gs (gr (rn hA 3 ?_))))
 obtain ⟨j4, f7, e1, f9, e6, e0, e4, f2, e3, n1, k6, i4, g9, j3, i0, g7, i6, i8, i3, j9, hc7⟩ : ∃ (j4 : Int) (f7 : Int) (e1 : Int) (f9 : Int) (e6 : Int) (e0 : Int) (e4 : ByteArray) (f2 : ByteArray) (e3 : ByteArray) (n1 : Bool), j4 = ((Option.getD (lat (mailIs 5 v u) bySeqB xs) zItem).Seq) ∧ f7 = (((Option.getD (lat (mailIs 5 v u) bySeqB xs) zItem).Rec).Kind) ∧ e1 = (((Option.getD (lat (mailIs 5 v u) bySeqB xs) zItem).Rec).Valid) ∧ f9 = (((Option.getD (lat (mailIs 5 v u) bySeqB xs) zItem).Rec).Uid) ∧ e6 = (((Option.getD (lat (mailIs 5 v u) bySeqB xs) zItem).Rec).Next) ∧ e0 = (((Option.getD (lat (mailIs 5 v u) bySeqB xs) zItem).Rec).Flags) ∧ e4 = (((Option.getD (lat (mailIs 5 v u) bySeqB xs) zItem).Rec).User) ∧ f2 = (((Option.getD (lat (mailIs 5 v u) bySeqB xs) zItem).Rec).Name) ∧ e3 = (((Option.getD (lat (mailIs 5 v u) bySeqB xs) zItem).Rec).Text) ∧ n1 = (Option.isSome (lat (mailIs 5 v u) bySeqB xs)) ∧ Real Tryz.prog 175 [.sl 9 j0, .ii 5, .ii v, .ii u] (.tup [.agg [.ii j4, .ii f7, .ii e1, .ii f9, .ii e6, .ii e0, .str e4, .str f2, .str e3], .bool n1]) := ⟨_, _, _, _, _, _, _, _, _, _, rfl, rfl, rfl, rfl, rfl, rfl, rfl, rfl, rfl, rfl, by subst c2; exact r_impl_mailItem A hA xs 5 v u (by assumption)⟩
 refine ops_callV rfl rfl (by cbv) (by cbv) hc7 (.inr rfl) (by cbv) ?_
 refine rz hA 6 ?_
 refine gx hA 1 ?_
 refine go_cond rfl (fun c8 => ?_) (fun c8 => ?_)
 ·
  refine gx hA 3 ?_
  refine go_ret ⟨_, by cbv, ?_⟩
  show _ = PV.tup [.agg [.ii 0, .ii 0, .ii 0, .ii 0, .ii 0, .ii 0, .str ByteArray.empty, .str ByteArray.empty, .str ByteArray.empty], .bool false]
  have g5 : (Option.isSome (boxAt v xs)) = true := by rw [← g1]; assumption
  have k0 : (Option.isSome (lat (mailIs 5 v u) bySeqB xs)) = true := by rw [← j9]; assumption
  rw [mailAt, if_pos (g5), if_pos (k0)]
  try simp only [j2, d6, d0, e9, d9, c9, d2, d5, d4, g1, k6, i4, g9, j3, i0, g7, i6, i8, i3, j9]
  rfl
 refine gk (gs (gr (rn hA 3 ?_)))
 obtain ⟨g2, b9, a2, c7, b5, a4, b8, b6, a7, l2, n4, m2, k4, m8, m1, k7, m6, m0, m3, n8, o0⟩ : ∃ (g2 : Int) (b9 : Int) (a2 : Int) (c7 : Int) (b5 : Int) (a4 : Int) (b8 : ByteArray) (b6 : ByteArray) (a7 : ByteArray) (l2 : Bool), g2 = ((Option.getD (lat (mailIs 3 v u) bySeqB xs) zItem).Seq) ∧ b9 = (((Option.getD (lat (mailIs 3 v u) bySeqB xs) zItem).Rec).Kind) ∧ a2 = (((Option.getD (lat (mailIs 3 v u) bySeqB xs) zItem).Rec).Valid) ∧ c7 = (((Option.getD (lat (mailIs 3 v u) bySeqB xs) zItem).Rec).Uid) ∧ b5 = (((Option.getD (lat (mailIs 3 v u) bySeqB xs) zItem).Rec).Next) ∧ a4 = (((Option.getD (lat (mailIs 3 v u) bySeqB xs) zItem).Rec).Flags) ∧ b8 = (((Option.getD (lat (mailIs 3 v u) bySeqB xs) zItem).Rec).User) ∧ b6 = (((Option.getD (lat (mailIs 3 v u) bySeqB xs) zItem).Rec).Name) ∧ a7 = (((Option.getD (lat (mailIs 3 v u) bySeqB xs) zItem).Rec).Text) ∧ l2 = (Option.isSome (lat (mailIs 3 v u) bySeqB xs)) ∧ Real Tryz.prog 175 [.sl 9 j0, .ii 3, .ii v, .ii u] (.tup [.agg [.ii g2, .ii b9, .ii a2, .ii c7, .ii b5, .ii a4, .str b8, .str b6, .str a7], .bool l2]) := ⟨_, _, _, _, _, _, _, _, _, _, rfl, rfl, rfl, rfl, rfl, rfl, rfl, rfl, rfl, rfl, by subst c2; exact r_impl_mailItem A hA xs 3 v u (by assumption)⟩
 refine ops_callV rfl rfl (by cbv) (by cbv) o0 (.inr rfl) (by cbv) ?_
 refine rz hA 4 ?_
 refine go_ret ⟨_, by cbv, ?_⟩
 show _ = PV.tup [.agg [.ii g2, .ii b9, .ii a2, .ii c7, .ii b5, .ii a4, .str b8, .str b6, .str a7], .bool l2]
 have g5 : (Option.isSome (boxAt v xs)) = true := by rw [← g1]; assumption
 have k0 : (Option.isSome (lat (mailIs 5 v u) bySeqB xs)) = false := by rw [← j9]; assumption
 rw [mailAt, if_pos (g5), if_neg (by rw [k0]; decide)]
 try simp only [j2, d6, d0, e9, d9, c9, d2, d5, d4, g1, k6, i4, g9, j3, i0, g7, i6, i8, i3, j9, n4, m2, k4, m8, m1, k7, m6, m0, m3, n8]
 rfl
end Go.Av
