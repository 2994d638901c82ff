/- Walks: the items of a box and of a mail. -/
import Derived.Test.YtjbokkoiicoahaaGreatDoorJ1
namespace Go.Av
open Go Go.Proofs
set_option maxRecDepth 100000
set_option maxHeartbeats 4000000
set_option linter.unusedVariables false
set_option linter.unusedSimpArgs false
def Sr_latest_mail_1 (p0:Int)(p1:Int)(p2:Int)(p3:Bool)(p4:RR)(p5:Int)(p6:Int)(p7:Int)(p8:ByteArray)(p9:Int)(p10:Int)(p11:Int)(p12:Int)(p13:Int)(p14:Int)(p15:ByteArray)(p16:ByteArray)(p17:ByteArray):St:={sl:=[.bad,.fn 137 [.rd [.ii p0],.rd [.ii p1],.rd [.ii p2]],.fn 106 [],.bad,.bad,.bad,.pt 6 0 0,.bad,.pt 8 0 0,.bool p3,.bad,.bad,.bad,.sl 9 p4,.ii p5,.ii p6,.bad,.bad,.bad,.bad,.bad,.bad,.bad,.bad,.bad,.bad,.bad,.bad,.bad,.bad,.bad,.bad,.bad,.bad,.bad,.bad,.bad],bl:=[(6,⟨.var,9,[[.ii p7,.ii p7,.ii p7,.ii p7,.ii p7,.ii p7,.str p8,.str p8,.str p8]]⟩),(8,⟨.var,9,[[.ii p9,.ii p10,.ii p11,.ii p12,.ii p13,.ii p14,.str p15,.str p16,.str p17]]⟩)]}
theorem r_latest_mail (A:Alg)(hA:A=std)(xs:List GItem)(k v u:Int)(hx:(List.length xs:Int)≤4611686018427387904):Real Tryz.prog 103 [.sl 9 (List.map eItem xs),.fn 137 [.rd [.ii k],.rd [.ii v],.rd [.ii u]],.fn 106 []] (.tup [.agg (eItem (Option.getD (lat (mailIs k v u) bySeqB xs) zItem)),.bool (Option.isSome (lat (mailIs k v u) bySeqB xs))]):=by
 obtain⟨a8,b5⟩:=nm (xs.map eItem)
 have c0:=rlen_map hA b5
 refine real_args (args':=[.sl 9 a8,.fn 137 [.rd [.ii k],.rd [.ii v],.rd [.ii u]],.fn 106 []]) (by subst b5;rfl) ?_
 refine real tyOk Tryz.func103 (by kernel_rfl) (afun_of rfl ?_)
 refine gx hA 2 ?_
 refine gx hA 4 ?_
 refine gs (gx hA 3 ?_)
 refine go_block ?_
 refine go_loopE (fun σ m=>∃(i:Nat) (n:Int) (fd:Bool) (q0:Int) (q1:Int) (q2:Int) (q3:Int) (q4:Int) (q5:Int) (q6:ByteArray) (q7:ByteArray) (q8:ByteArray),σ=(Sr_latest_mail_1 k v u fd a8 (A.rlen a8) n 0 ByteArray.empty q0 q1 q2 q3 q4 q5 q6 q7 q8)∧(n=(i:Int)∧i≤List.length xs∧fd=Option.isSome (lat (mailIs k v u) bySeqB (xs.take i))∧(⟨q0,⟨q1,q2,q3,q4,q5,q6,q7,q8⟩⟩:GItem)=Option.getD (lat (mailIs k v u) bySeqB (xs.take i)) zItem)∧m=List.length xs - i) _ [.up 8,.up 6] [1,2,6,8,9,13,14,15] [6,8] (Sr_latest_mail_1 k v u false a8 (A.rlen a8) 0 0 ByteArray.empty 0 0 0 0 0 0 ByteArray.empty ByteArray.empty ByteArray.empty) rfl (by cbv) ⟨0,0,false,0,0,0,0,0,0,ByteArray.empty,ByteArray.empty,ByteArray.empty,rfl,?_,rfl⟩ (fun σ m hI=> ?_)
 ·
  exact⟨rfl,Nat.zero_le _,rfl,rfl⟩
 obtain⟨i,n,fd,q0,q1,q2,q3,q4,q5,q6,q7,q8,rfl,⟨hn,hi,hF,hQ⟩,rfl⟩:=hI
 refine gx hA 1 ?_
 refine gs ?_
 refine gc (fun c1=> ?_) (fun c1=> ?_)
 ·
  have ec1:n < (A.rlen a8):=lss_t hA c1
  refine gk (gs ?_)
  refine go_block ?_
  refine gs (gr ?_)
  have b6:(0:Int)≤n:=by
   omega
  have b7:(Int.toNat n) < List.length xs:=by
   omega
  obtain⟨x2,hx2⟩:∃ x,(xs)[(Int.toNat n)]? =some x:=⟨_,List.getElem?_eq_getElem b7⟩
  have c2:=List.mem_of_getElem? hx2
  obtain⟨a9,⟨a2,a0,a7,a4,a1,a3,a6,a5⟩⟩:=x2
  have b8:a8[(Int.toNat n)]? =some [.ii a9,.ii a2,.ii a0,.ii a7,.ii a4,.ii a1,.str a3,.str a6,.str a5]:=by
   exact map_at eItem b5 hx2
  have b0:=hx2
  rw[hn] at b0
  have b0:(xs)[i]? =some (⟨a9,⟨a2,a0,a7,a4,a1,a3,a6,a5⟩⟩:GItem):=b0
  refine ops_step rfl rfl (idx_sl rfl rfl rfl rfl rfl b6 rfl b8) ?_
  refine rz hA 3 ?_
  refine gs (gr (rn hA 3 ?_))
  obtain⟨b4,b1,hc4⟩:∃(b4:Bool),b4=(mailIs k v u (⟨a2,a0,a7,a4,a1,a3,a6,a5⟩:GRec))∧Real Tryz.prog 137 [.agg [.ii a2,.ii a0,.ii a7,.ii a4,.ii a1,.str a3,.str a6,.str a5],.rd [.ii k],.rd [.ii v],.rd [.ii u]] (.bool b4):=⟨_,rfl,by exact r_mailItem_f A hA (⟨a2,a0,a7,a4,a1,a3,a6,a5⟩:GRec) k v u⟩
  refine cvw hc4 (.inr rfl) ?_
  refine rn hA 1 ?_
  refine ops_split 23 rfl (fun c5=> ?_) (fun c5=> ?_)
  ·
   refine rn hA 3 ?_
   refine ops_split 26 rfl (fun c6=> ?_) (fun c6=> ?_)
   ·
    have c7:fd=false:=bnot_t hA c6
    refine rz hA 6 ?_
    refine gc (fun c8=> ?_) (fun c8=> ?_)
    ·
     refine gy hA 3 ?_
     refine gy hA 2 ?_
     refine⟨(Sr_latest_mail_1 k v u true a8 (A.rlen a8) (A.num .add .i64 n 1) 0 ByteArray.empty a9 a2 a0 a7 a4 a1 a3 a6 a5),List.length xs - (i+1),?_,by cbv,i+1,(A.num .add .i64 n 1),true,a9,a2,a0,a7,a4,a1,a3,a6,a5,rfl,?_,rfl⟩
     ·
      omega
     refine⟨by rw[add_i64 hA (by omega) (by omega)];omega,by omega,?_⟩
     rw[lat_at b0]
     rw[lat_new (by rw[← b1];assumption) (by rw[← hF];exact Eq.symm (by assumption))]
     exact⟨rfl,rfl⟩
    exact no_f c8 (show true=true from by rfl)
   have c9:fd=true:=bnot_f hA c6
   refine rn hA 3 ?_
   obtain⟨b2,b3,b9⟩:∃(b2:Bool),b2=(bySeqB (⟨q0,⟨q1,q2,q3,q4,q5,q6,q7,q8⟩⟩:GItem) (⟨a9,⟨a2,a0,a7,a4,a1,a3,a6,a5⟩⟩:GItem))∧Real Tryz.prog 106 [.agg [.ii q0,.ii q1,.ii q2,.ii q3,.ii q4,.ii q5,.str q6,.str q7,.str q8],.agg [.ii a9,.ii a2,.ii a0,.ii a7,.ii a4,.ii a1,.str a3,.str a6,.str a5]] (.bool b2):=⟨_,rfl,by exact r_impl_bySeq A hA (⟨q0,⟨q1,q2,q3,q4,q5,q6,q7,q8⟩⟩:GItem) (⟨a9,⟨a2,a0,a7,a4,a1,a3,a6,a5⟩⟩:GItem)⟩
   refine ops_callG rfl rfl rfl rfl (by cbv) (by cbv) b9 (.inr rfl) (by cbv) ?_
   refine rz hA 2 ?_
   refine gc (fun c12=> ?_) (fun c12=> ?_)
   ·
    refine gy hA 3 ?_
    refine gy hA 2 ?_
    refine⟨(Sr_latest_mail_1 k v u true a8 (A.rlen a8) (A.num .add .i64 n 1) 0 ByteArray.empty a9 a2 a0 a7 a4 a1 a3 a6 a5),List.length xs - (i+1),?_,by cbv,i+1,(A.num .add .i64 n 1),true,a9,a2,a0,a7,a4,a1,a3,a6,a5,rfl,?_,rfl⟩
    ·
     omega
    refine⟨by rw[add_i64 hA (by omega) (by omega)];omega,by omega,?_⟩
    rw[lat_at b0]
    rw[lat_lt (by rw[← b1];assumption) (by rw[← hF];exact Eq.symm (by assumption)) hQ (by rw[← b3];assumption)]
    exact⟨rfl,rfl⟩
   refine gk (gy hA 2 ?_)
   refine⟨(Sr_latest_mail_1 k v u fd a8 (A.rlen a8) (A.num .add .i64 n 1) 0 ByteArray.empty q0 q1 q2 q3 q4 q5 q6 q7 q8),List.length xs - (i+1),?_,by cbv,i+1,(A.num .add .i64 n 1),fd,q0,q1,q2,q3,q4,q5,q6,q7,q8,rfl,?_,rfl⟩
   ·
    omega
   refine⟨by rw[add_i64 hA (by omega) (by omega)];omega,by omega,?_⟩
   rw[lat_at b0]
   rw[lat_ge (by rw[← hF];exact Eq.symm (by assumption)) hQ (by rw[← b3];assumption)]
   exact⟨hF,hQ⟩
  refine rz hA 9 ?_
  refine gc (fun c13=> ?_) (fun c13=> ?_)
  ·
   exact no_t c13 (show false=false from by rfl)
  refine gk (gy hA 2 ?_)
  refine⟨(Sr_latest_mail_1 k v u fd a8 (A.rlen a8) (A.num .add .i64 n 1) 0 ByteArray.empty q0 q1 q2 q3 q4 q5 q6 q7 q8),List.length xs - (i+1),?_,by cbv,i+1,(A.num .add .i64 n 1),fd,q0,q1,q2,q3,q4,q5,q6,q7,q8,rfl,?_,rfl⟩
  ·
   omega
  refine⟨by rw[add_i64 hA (by omega) (by omega)];omega,by omega,?_⟩
  rw[lat_at b0]
  rw[lat_no (by rw[← b1];assumption)]
  exact⟨hF,hQ⟩
 have ec1:(A.rlen a8)≤n:=lss_f hA c1
 refine go_exit ⟨fun _=> ?_,fun h=>absurd rfl h⟩
 refine gx hA 4 ?_
 refine rt (gt ?_)
 show _=PV.tup [.agg [.ii q0,.ii q1,.ii q2,.ii q3,.ii q4,.ii q5,.str q6,.str q7,.str q8],.bool fd]
 rw[List.take_of_length_le (by omega)] at hF hQ
 rw[← hF,← hQ]
 rfl
def Sr_latest_drop_1 (p0:Int)(p1:Bool)(p2:RR)(p3:Int)(p4:Int)(p5:Int)(p6:ByteArray)(p7:Int)(p8:Int)(p9:Int)(p10:Int)(p11:Int)(p12:Int)(p13:ByteArray)(p14:ByteArray)(p15:ByteArray):St:={sl:=[.bad,.fn 104 [.rd [.ii p0]],.fn 106 [],.bad,.bad,.bad,.pt 6 0 0,.bad,.pt 8 0 0,.bool p1,.bad,.bad,.bad,.sl 9 p2,.ii p3,.ii p4,.bad,.bad,.bad,.bad,.bad,.bad,.bad,.bad,.bad,.bad,.bad,.bad,.bad,.bad,.bad,.bad,.bad,.bad,.bad,.bad,.bad],bl:=[(6,⟨.var,9,[[.ii p5,.ii p5,.ii p5,.ii p5,.ii p5,.ii p5,.str p6,.str p6,.str p6]]⟩),(8,⟨.var,9,[[.ii p7,.ii p8,.ii p9,.ii p10,.ii p11,.ii p12,.str p13,.str p14,.str p15]]⟩)]}
theorem r_latest_drop (A:Alg)(hA:A=std)(xs:List GItem)(v:Int)(hx:(List.length xs:Int)≤4611686018427387904):Real Tryz.prog 103 [.sl 9 (List.map eItem xs),.fn 104 [.rd [.ii v]],.fn 106 []] (.tup [.agg (eItem (Option.getD (lat (kindIs 2 v) bySeqB xs) zItem)),.bool (Option.isSome (lat (kindIs 2 v) bySeqB xs))]):=by
 obtain⟨a8,b5⟩:=nm (xs.map eItem)
 have c0:=rlen_map hA b5
 refine real_args (args':=[.sl 9 a8,.fn 104 [.rd [.ii v]],.fn 106 []]) (by subst b5;rfl) ?_
 refine real tyOk Tryz.func103 (by kernel_rfl) (afun_of rfl ?_)
 refine gx hA 2 ?_
 refine gx hA 4 ?_
 refine gs (gx hA 3 ?_)
 refine go_block ?_
 refine go_loopE (fun σ m=>∃(i:Nat) (n:Int) (fd:Bool) (q0:Int) (q1:Int) (q2:Int) (q3:Int) (q4:Int) (q5:Int) (q6:ByteArray) (q7:ByteArray) (q8:ByteArray),σ=(Sr_latest_drop_1 v fd a8 (A.rlen a8) n 0 ByteArray.empty q0 q1 q2 q3 q4 q5 q6 q7 q8)∧(n=(i:Int)∧i≤List.length xs∧fd=Option.isSome (lat (kindIs 2 v) bySeqB (xs.take i))∧(⟨q0,⟨q1,q2,q3,q4,q5,q6,q7,q8⟩⟩:GItem)=Option.getD (lat (kindIs 2 v) bySeqB (xs.take i)) zItem)∧m=List.length xs - i) _ [.up 8,.up 6] [1,2,6,8,9,13,14,15] [6,8] (Sr_latest_drop_1 v false a8 (A.rlen a8) 0 0 ByteArray.empty 0 0 0 0 0 0 ByteArray.empty ByteArray.empty ByteArray.empty) rfl (by cbv) ⟨0,0,false,0,0,0,0,0,0,ByteArray.empty,ByteArray.empty,ByteArray.empty,rfl,?_,rfl⟩ (fun σ m hI=> ?_)
 ·
  exact⟨rfl,Nat.zero_le _,rfl,rfl⟩
 obtain⟨i,n,fd,q0,q1,q2,q3,q4,q5,q6,q7,q8,rfl,⟨hn,hi,hF,hQ⟩,rfl⟩:=hI
 refine gx hA 1 ?_
 refine gs ?_
 refine gc (fun c1=> ?_) (fun c1=> ?_)
 ·
  have ec1:n < (A.rlen a8):=lss_t hA c1
  refine gk (gs ?_)
  refine go_block ?_
  refine gs (gr ?_)
  have b6:(0:Int)≤n:=by
   omega
  have b7:(Int.toNat n) < List.length xs:=by
   omega
  obtain⟨x2,hx2⟩:∃ x,(xs)[(Int.toNat n)]? =some x:=⟨_,List.getElem?_eq_getElem b7⟩
  have c2:=List.mem_of_getElem? hx2
  obtain⟨a9,⟨a2,a0,a7,a4,a1,a3,a6,a5⟩⟩:=x2
  have b8:a8[(Int.toNat n)]? =some [.ii a9,.ii a2,.ii a0,.ii a7,.ii a4,.ii a1,.str a3,.str a6,.str a5]:=by
   exact map_at eItem b5 hx2
  have b0:=hx2
  rw[hn] at b0
  have b0:(xs)[i]? =some (⟨a9,⟨a2,a0,a7,a4,a1,a3,a6,a5⟩⟩:GItem):=b0
  refine ops_step rfl rfl (idx_sl rfl rfl rfl rfl rfl b6 rfl b8) ?_
  refine rz hA 3 ?_
  refine gs (gr (rn hA 3 ?_))
  obtain⟨b4,b1,hc4⟩:∃(b4:Bool),b4=(kindIs 2 v (⟨a2,a0,a7,a4,a1,a3,a6,a5⟩:GRec))∧Real Tryz.prog 104 [.agg [.ii a2,.ii a0,.ii a7,.ii a4,.ii a1,.str a3,.str a6,.str a5],.rd [.ii v]] (.bool b4):=⟨_,rfl,by exact r_boxThere_f A hA (⟨a2,a0,a7,a4,a1,a3,a6,a5⟩:GRec) v⟩
  refine cvw hc4 (.inr rfl) ?_
  refine rn hA 1 ?_
  refine ops_split 23 rfl (fun c5=> ?_) (fun c5=> ?_)
  ·
   refine rn hA 3 ?_
   refine ops_split 26 rfl (fun c6=> ?_) (fun c6=> ?_)
   ·
    have c7:fd=false:=bnot_t hA c6
    refine rz hA 6 ?_
    refine gc (fun c8=> ?_) (fun c8=> ?_)
    ·
     refine gy hA 3 ?_
     refine gy hA 2 ?_
     refine⟨(Sr_latest_drop_1 v true a8 (A.rlen a8) (A.num .add .i64 n 1) 0 ByteArray.empty a9 a2 a0 a7 a4 a1 a3 a6 a5),List.length xs - (i+1),?_,by cbv,i+1,(A.num .add .i64 n 1),true,a9,a2,a0,a7,a4,a1,a3,a6,a5,rfl,?_,rfl⟩
     ·
      omega
     refine⟨by rw[add_i64 hA (by omega) (by omega)];omega,by omega,?_⟩
     rw[lat_at b0]
     rw[lat_new (by rw[← b1];assumption) (by rw[← hF];exact Eq.symm (by assumption))]
     exact⟨rfl,rfl⟩
    exact no_f c8 (show true=true from by rfl)
   have c9:fd=true:=bnot_f hA c6
   refine rn hA 3 ?_
   obtain⟨b2,b3,b9⟩:∃(b2:Bool),b2=(bySeqB (⟨q0,⟨q1,q2,q3,q4,q5,q6,q7,q8⟩⟩:GItem) (⟨a9,⟨a2,a0,a7,a4,a1,a3,a6,a5⟩⟩:GItem))∧Real Tryz.prog 106 [.agg [.ii q0,.ii q1,.ii q2,.ii q3,.ii q4,.ii q5,.str q6,.str q7,.str q8],.agg [.ii a9,.ii a2,.ii a0,.ii a7,.ii a4,.ii a1,.str a3,.str a6,.str a5]] (.bool b2):=⟨_,rfl,by exact r_impl_bySeq A hA (⟨q0,⟨q1,q2,q3,q4,q5,q6,q7,q8⟩⟩:GItem) (⟨a9,⟨a2,a0,a7,a4,a1,a3,a6,a5⟩⟩:GItem)⟩
   refine ops_callG rfl rfl rfl rfl (by cbv) (by cbv) b9 (.inr rfl) (by cbv) ?_
   refine rz hA 2 ?_
   refine gc (fun c12=> ?_) (fun c12=> ?_)
   ·
    refine gy hA 3 ?_
    refine gy hA 2 ?_
    refine⟨(Sr_latest_drop_1 v true a8 (A.rlen a8) (A.num .add .i64 n 1) 0 ByteArray.empty a9 a2 a0 a7 a4 a1 a3 a6 a5),List.length xs - (i+1),?_,by cbv,i+1,(A.num .add .i64 n 1),true,a9,a2,a0,a7,a4,a1,a3,a6,a5,rfl,?_,rfl⟩
    ·
     omega
    refine⟨by rw[add_i64 hA (by omega) (by omega)];omega,by omega,?_⟩
    rw[lat_at b0]
    rw[lat_lt (by rw[← b1];assumption) (by rw[← hF];exact Eq.symm (by assumption)) hQ (by rw[← b3];assumption)]
    exact⟨rfl,rfl⟩
   refine gk (gy hA 2 ?_)
   refine⟨(Sr_latest_drop_1 v fd a8 (A.rlen a8) (A.num .add .i64 n 1) 0 ByteArray.empty q0 q1 q2 q3 q4 q5 q6 q7 q8),List.length xs - (i+1),?_,by cbv,i+1,(A.num .add .i64 n 1),fd,q0,q1,q2,q3,q4,q5,q6,q7,q8,rfl,?_,rfl⟩
   ·
    omega
   refine⟨by rw[add_i64 hA (by omega) (by omega)];omega,by omega,?_⟩
   rw[lat_at b0]
   rw[lat_ge (by rw[← hF];exact Eq.symm (by assumption)) hQ (by rw[← b3];assumption)]
   exact⟨hF,hQ⟩
  refine rz hA 9 ?_
  refine gc (fun c13=> ?_) (fun c13=> ?_)
  ·
   exact no_t c13 (show false=false from by rfl)
  refine gk (gy hA 2 ?_)
  refine⟨(Sr_latest_drop_1 v fd a8 (A.rlen a8) (A.num .add .i64 n 1) 0 ByteArray.empty q0 q1 q2 q3 q4 q5 q6 q7 q8),List.length xs - (i+1),?_,by cbv,i+1,(A.num .add .i64 n 1),fd,q0,q1,q2,q3,q4,q5,q6,q7,q8,rfl,?_,rfl⟩
  ·
   omega
  refine⟨by rw[add_i64 hA (by omega) (by omega)];omega,by omega,?_⟩
  rw[lat_at b0]
  rw[lat_no (by rw[← b1];assumption)]
  exact⟨hF,hQ⟩
 have ec1:(A.rlen a8)≤n:=lss_f hA c1
 refine go_exit ⟨fun _=> ?_,fun h=>absurd rfl h⟩
 refine gx hA 4 ?_
 refine rt (gt ?_)
 show _=PV.tup [.agg [.ii q0,.ii q1,.ii q2,.ii q3,.ii q4,.ii q5,.str q6,.str q7,.str q8],.bool fd]
 rw[List.take_of_length_le (by omega)] at hF hQ
 rw[← hF,← hQ]
 rfl
def Sr_latest_box_1 (p0:Int)(p1:Bool)(p2:RR)(p3:Int)(p4:Int)(p5:Int)(p6:ByteArray)(p7:Int)(p8:Int)(p9:Int)(p10:Int)(p11:Int)(p12:Int)(p13:ByteArray)(p14:ByteArray)(p15:ByteArray):St:={sl:=[.bad,.fn 107 [.rd [.ii p0]],.fn 108 [],.bad,.bad,.bad,.pt 6 0 0,.bad,.pt 8 0 0,.bool p1,.bad,.bad,.bad,.sl 9 p2,.ii p3,.ii p4,.bad,.bad,.bad,.bad,.bad,.bad,.bad,.bad,.bad,.bad,.bad,.bad,.bad,.bad,.bad,.bad,.bad,.bad,.bad,.bad,.bad],bl:=[(6,⟨.var,9,[[.ii p5,.ii p5,.ii p5,.ii p5,.ii p5,.ii p5,.str p6,.str p6,.str p6]]⟩),(8,⟨.var,9,[[.ii p7,.ii p8,.ii p9,.ii p10,.ii p11,.ii p12,.str p13,.str p14,.str p15]]⟩)]}
theorem r_latest_box (A:Alg)(hA:A=std)(xs:List GItem)(v:Int)(hx:(List.length xs:Int)≤4611686018427387904):Real Tryz.prog 103 [.sl 9 (List.map eItem xs),.fn 107 [.rd [.ii v]],.fn 108 []] (.tup [.agg (eItem (Option.getD (lat (kindIs 1 v) byNextB xs) zItem)),.bool (Option.isSome (lat (kindIs 1 v) byNextB xs))]):=by
 obtain⟨a8,b5⟩:=nm (xs.map eItem)
 have c0:=rlen_map hA b5
 refine real_args (args':=[.sl 9 a8,.fn 107 [.rd [.ii v]],.fn 108 []]) (by subst b5;rfl) ?_
 refine real tyOk Tryz.func103 (by kernel_rfl) (afun_of rfl ?_)
 refine gx hA 2 ?_
 refine gx hA 4 ?_
 refine gs (gx hA 3 ?_)
 refine go_block ?_
 refine go_loopE (fun σ m=>∃(i:Nat) (n:Int) (fd:Bool) (q0:Int) (q1:Int) (q2:Int) (q3:Int) (q4:Int) (q5:Int) (q6:ByteArray) (q7:ByteArray) (q8:ByteArray),σ=(Sr_latest_box_1 v fd a8 (A.rlen a8) n 0 ByteArray.empty q0 q1 q2 q3 q4 q5 q6 q7 q8)∧(n=(i:Int)∧i≤List.length xs∧fd=Option.isSome (lat (kindIs 1 v) byNextB (xs.take i))∧(⟨q0,⟨q1,q2,q3,q4,q5,q6,q7,q8⟩⟩:GItem)=Option.getD (lat (kindIs 1 v) byNextB (xs.take i)) zItem)∧m=List.length xs - i) _ [.up 8,.up 6] [1,2,6,8,9,13,14,15] [6,8] (Sr_latest_box_1 v false a8 (A.rlen a8) 0 0 ByteArray.empty 0 0 0 0 0 0 ByteArray.empty ByteArray.empty ByteArray.empty) rfl (by cbv) ⟨0,0,false,0,0,0,0,0,0,ByteArray.empty,ByteArray.empty,ByteArray.empty,rfl,?_,rfl⟩ (fun σ m hI=> ?_)
 ·
  exact⟨rfl,Nat.zero_le _,rfl,rfl⟩
 obtain⟨i,n,fd,q0,q1,q2,q3,q4,q5,q6,q7,q8,rfl,⟨hn,hi,hF,hQ⟩,rfl⟩:=hI
 refine gx hA 1 ?_
 refine gs ?_
 refine gc (fun c1=> ?_) (fun c1=> ?_)
 ·
  have ec1:n < (A.rlen a8):=lss_t hA c1
  refine gk (gs ?_)
  refine go_block ?_
  refine gs (gr ?_)
  have b6:(0:Int)≤n:=by
   omega
  have b7:(Int.toNat n) < List.length xs:=by
   omega
  obtain⟨x2,hx2⟩:∃ x,(xs)[(Int.toNat n)]? =some x:=⟨_,List.getElem?_eq_getElem b7⟩
  have c2:=List.mem_of_getElem? hx2
  obtain⟨a9,⟨a2,a0,a7,a4,a1,a3,a6,a5⟩⟩:=x2
  have b8:a8[(Int.toNat n)]? =some [.ii a9,.ii a2,.ii a0,.ii a7,.ii a4,.ii a1,.str a3,.str a6,.str a5]:=by
   exact map_at eItem b5 hx2
  have b0:=hx2
  rw[hn] at b0
  have b0:(xs)[i]? =some (⟨a9,⟨a2,a0,a7,a4,a1,a3,a6,a5⟩⟩:GItem):=b0
  refine ops_step rfl rfl (idx_sl rfl rfl rfl rfl rfl b6 rfl b8) ?_
  refine rz hA 3 ?_
  refine gs (gr (rn hA 3 ?_))
  obtain⟨b4,b1,hc4⟩:∃(b4:Bool),b4=(kindIs 1 v (⟨a2,a0,a7,a4,a1,a3,a6,a5⟩:GRec))∧Real Tryz.prog 107 [.agg [.ii a2,.ii a0,.ii a7,.ii a4,.ii a1,.str a3,.str a6,.str a5],.rd [.ii v]] (.bool b4):=⟨_,rfl,by exact r_boxThere_g A hA (⟨a2,a0,a7,a4,a1,a3,a6,a5⟩:GRec) v⟩
  refine cvw hc4 (.inr rfl) ?_
  refine rn hA 1 ?_
  refine ops_split 23 rfl (fun c5=> ?_) (fun c5=> ?_)
  ·
   refine rn hA 3 ?_
   refine ops_split 26 rfl (fun c6=> ?_) (fun c6=> ?_)
   ·
    have c7:fd=false:=bnot_t hA c6
    refine rz hA 6 ?_
    refine gc (fun c8=> ?_) (fun c8=> ?_)
    ·
     refine gy hA 3 ?_
     refine gy hA 2 ?_
     refine⟨(Sr_latest_box_1 v true a8 (A.rlen a8) (A.num .add .i64 n 1) 0 ByteArray.empty a9 a2 a0 a7 a4 a1 a3 a6 a5),List.length xs - (i+1),?_,by cbv,i+1,(A.num .add .i64 n 1),true,a9,a2,a0,a7,a4,a1,a3,a6,a5,rfl,?_,rfl⟩
     ·
      omega
     refine⟨by rw[add_i64 hA (by omega) (by omega)];omega,by omega,?_⟩
     rw[lat_at b0]
     rw[lat_new (by rw[← b1];assumption) (by rw[← hF];exact Eq.symm (by assumption))]
     exact⟨rfl,rfl⟩
    exact no_f c8 (show true=true from by rfl)
   have c9:fd=true:=bnot_f hA c6
   refine rn hA 3 ?_
   obtain⟨b2,b3,b9⟩:∃(b2:Bool),b2=(byNextB (⟨q0,⟨q1,q2,q3,q4,q5,q6,q7,q8⟩⟩:GItem) (⟨a9,⟨a2,a0,a7,a4,a1,a3,a6,a5⟩⟩:GItem))∧Real Tryz.prog 108 [.agg [.ii q0,.ii q1,.ii q2,.ii q3,.ii q4,.ii q5,.str q6,.str q7,.str q8],.agg [.ii a9,.ii a2,.ii a0,.ii a7,.ii a4,.ii a1,.str a3,.str a6,.str a5]] (.bool b2):=⟨_,rfl,by exact r_impl_byNext A hA (⟨q0,⟨q1,q2,q3,q4,q5,q6,q7,q8⟩⟩:GItem) (⟨a9,⟨a2,a0,a7,a4,a1,a3,a6,a5⟩⟩:GItem)⟩
   refine ops_callG rfl rfl rfl rfl (by cbv) (by cbv) b9 (.inr rfl) (by cbv) ?_
   refine rz hA 2 ?_
   refine gc (fun c12=> ?_) (fun c12=> ?_)
   ·
    refine gy hA 3 ?_
    refine gy hA 2 ?_
    refine⟨(Sr_latest_box_1 v true a8 (A.rlen a8) (A.num .add .i64 n 1) 0 ByteArray.empty a9 a2 a0 a7 a4 a1 a3 a6 a5),List.length xs - (i+1),?_,by cbv,i+1,(A.num .add .i64 n 1),true,a9,a2,a0,a7,a4,a1,a3,a6,a5,rfl,?_,rfl⟩
    ·
     omega
    refine⟨by rw[add_i64 hA (by omega) (by omega)];omega,by omega,?_⟩
    rw[lat_at b0]
    rw[lat_lt (by rw[← b1];assumption) (by rw[← hF];exact Eq.symm (by assumption)) hQ (by rw[← b3];assumption)]
    exact⟨rfl,rfl⟩
   refine gk (gy hA 2 ?_)
   refine⟨(Sr_latest_box_1 v fd a8 (A.rlen a8) (A.num .add .i64 n 1) 0 ByteArray.empty q0 q1 q2 q3 q4 q5 q6 q7 q8),List.length xs - (i+1),?_,by cbv,i+1,(A.num .add .i64 n 1),fd,q0,q1,q2,q3,q4,q5,q6,q7,q8,rfl,?_,rfl⟩
   ·
    omega
   refine⟨by rw[add_i64 hA (by omega) (by omega)];omega,by omega,?_⟩
   rw[lat_at b0]
   rw[lat_ge (by rw[← hF];exact Eq.symm (by assumption)) hQ (by rw[← b3];assumption)]
   exact⟨hF,hQ⟩
  refine rz hA 9 ?_
  refine gc (fun c13=> ?_) (fun c13=> ?_)
  ·
   exact no_t c13 (show false=false from by rfl)
  refine gk (gy hA 2 ?_)
  refine⟨(Sr_latest_box_1 v fd a8 (A.rlen a8) (A.num .add .i64 n 1) 0 ByteArray.empty q0 q1 q2 q3 q4 q5 q6 q7 q8),List.length xs - (i+1),?_,by cbv,i+1,(A.num .add .i64 n 1),fd,q0,q1,q2,q3,q4,q5,q6,q7,q8,rfl,?_,rfl⟩
  ·
   omega
  refine⟨by rw[add_i64 hA (by omega) (by omega)];omega,by omega,?_⟩
  rw[lat_at b0]
  rw[lat_no (by rw[← b1];assumption)]
  exact⟨hF,hQ⟩
 have ec1:(A.rlen a8)≤n:=lss_f hA c1
 refine go_exit ⟨fun _=> ?_,fun h=>absurd rfl h⟩
 refine gx hA 4 ?_
 refine rt (gt ?_)
 show _=PV.tup [.agg [.ii q0,.ii q1,.ii q2,.ii q3,.ii q4,.ii q5,.str q6,.str q7,.str q8],.bool fd]
 rw[List.take_of_length_le (by omega)] at hF hQ
 rw[← hF,← hQ]
 rfl
def Sr_latest_need_1 (p0:Int)(p1:Int)(p2:Int)(p3:Int)(p4:Int)(p5:ByteArray)(p6:ByteArray)(p7:ByteArray)(p8:Bool)(p9:RR)(p10:Int)(p11:Int)(p12:Int)(p13:ByteArray)(p14:Int)(p15:Int)(p16:Int)(p17:Int)(p18:Int)(p19:Int)(p20:ByteArray)(p21:ByteArray)(p22:ByteArray):St:={sl:=[.bad,.fn 153 [.rd [.ii p0,.ii p1,.ii p2,.ii p3,.ii p4,.str p5,.str p6,.str p7]],.fn 106 [],.bad,.bad,.bad,.pt 6 0 0,.bad,.pt 8 0 0,.bool p8,.bad,.bad,.bad,.sl 9 p9,.ii p10,.ii p11,.bad,.bad,.bad,.bad,.bad,.bad,.bad,.bad,.bad,.bad,.bad,.bad,.bad,.bad,.bad,.bad,.bad,.bad,.bad,.bad,.bad],bl:=[(6,⟨.var,9,[[.ii p12,.ii p12,.ii p12,.ii p12,.ii p12,.ii p12,.str p13,.str p13,.str p13]]⟩),(8,⟨.var,9,[[.ii p14,.ii p15,.ii p16,.ii p17,.ii p18,.ii p19,.str p20,.str p21,.str p22]]⟩)]}
theorem r_latest_need (A:Alg)(hA:A=std)(xs:List GItem)(cq0 cq1 cq2 cq3 cq4:Int)(cq5 cq6 cq7:ByteArray)(hx:(List.length xs:Int)≤4611686018427387904):Real Tryz.prog 103 [.sl 9 (List.map eItem xs),.fn 153 [.rd [.ii cq0,.ii cq1,.ii cq2,.ii cq3,.ii cq4,.str cq5,.str cq6,.str cq7]],.fn 106 []] (.tup [.agg (eItem (Option.getD (lat (kindIs 2 cq1) bySeqB xs) zItem)),.bool (Option.isSome (lat (kindIs 2 cq1) bySeqB xs))]):=by
 obtain⟨a8,b5⟩:=nm (xs.map eItem)
 have c0:=rlen_map hA b5
 refine real_args (args':=[.sl 9 a8,.fn 153 [.rd [.ii cq0,.ii cq1,.ii cq2,.ii cq3,.ii cq4,.str cq5,.str cq6,.str cq7]],.fn 106 []]) (by subst b5;rfl) ?_
 refine real tyOk Tryz.func103 (by kernel_rfl) (afun_of rfl ?_)
 refine gx hA 2 ?_
 refine gx hA 4 ?_
 refine gs (gx hA 3 ?_)
 refine go_block ?_
 refine go_loopE (fun σ m=>∃(i:Nat) (n:Int) (fd:Bool) (q0:Int) (q1:Int) (q2:Int) (q3:Int) (q4:Int) (q5:Int) (q6:ByteArray) (q7:ByteArray) (q8:ByteArray),σ=(Sr_latest_need_1 cq0 cq1 cq2 cq3 cq4 cq5 cq6 cq7 fd a8 (A.rlen a8) n 0 ByteArray.empty q0 q1 q2 q3 q4 q5 q6 q7 q8)∧(n=(i:Int)∧i≤List.length xs∧fd=Option.isSome (lat (kindIs 2 cq1) bySeqB (xs.take i))∧(⟨q0,⟨q1,q2,q3,q4,q5,q6,q7,q8⟩⟩:GItem)=Option.getD (lat (kindIs 2 cq1) bySeqB (xs.take i)) zItem)∧m=List.length xs - i) _ [.up 8,.up 6] [1,2,6,8,9,13,14,15] [6,8] (Sr_latest_need_1 cq0 cq1 cq2 cq3 cq4 cq5 cq6 cq7 false a8 (A.rlen a8) 0 0 ByteArray.empty 0 0 0 0 0 0 ByteArray.empty ByteArray.empty ByteArray.empty) rfl (by cbv) ⟨0,0,false,0,0,0,0,0,0,ByteArray.empty,ByteArray.empty,ByteArray.empty,rfl,?_,rfl⟩ (fun σ m hI=> ?_)
 ·
  exact⟨rfl,Nat.zero_le _,rfl,rfl⟩
 obtain⟨i,n,fd,q0,q1,q2,q3,q4,q5,q6,q7,q8,rfl,⟨hn,hi,hF,hQ⟩,rfl⟩:=hI
 refine gx hA 1 ?_
 refine gs ?_
 refine gc (fun c1=> ?_) (fun c1=> ?_)
 ·
  have ec1:n < (A.rlen a8):=lss_t hA c1
  refine gk (gs ?_)
  refine go_block ?_
  refine gs (gr ?_)
  have b6:(0:Int)≤n:=by
   omega
  have b7:(Int.toNat n) < List.length xs:=by
   omega
  obtain⟨x2,hx2⟩:∃ x,(xs)[(Int.toNat n)]? =some x:=⟨_,List.getElem?_eq_getElem b7⟩
  have c2:=List.mem_of_getElem? hx2
  obtain⟨a9,⟨a2,a0,a7,a4,a1,a3,a6,a5⟩⟩:=x2
  have b8:a8[(Int.toNat n)]? =some [.ii a9,.ii a2,.ii a0,.ii a7,.ii a4,.ii a1,.str a3,.str a6,.str a5]:=by
   exact map_at eItem b5 hx2
  have b0:=hx2
  rw[hn] at b0
  have b0:(xs)[i]? =some (⟨a9,⟨a2,a0,a7,a4,a1,a3,a6,a5⟩⟩:GItem):=b0
  refine ops_step rfl rfl (idx_sl rfl rfl rfl rfl rfl b6 rfl b8) ?_
  refine rz hA 3 ?_
  refine gs (gr (rn hA 3 ?_))
  obtain⟨b4,b1,hc4⟩:∃(b4:Bool),b4=(kindIs 2 cq1 (⟨a2,a0,a7,a4,a1,a3,a6,a5⟩:GRec))∧Real Tryz.prog 153 [.agg [.ii a2,.ii a0,.ii a7,.ii a4,.ii a1,.str a3,.str a6,.str a5],.rd [.ii cq0,.ii cq1,.ii cq2,.ii cq3,.ii cq4,.str cq5,.str cq6,.str cq7]] (.bool b4):=⟨_,rfl,by exact r_needed_f A hA (⟨a2,a0,a7,a4,a1,a3,a6,a5⟩:GRec) cq0 cq1 cq2 cq3 cq4 cq5 cq6 cq7⟩
  refine cvw hc4 (.inr rfl) ?_
  refine rn hA 1 ?_
  refine ops_split 23 rfl (fun c5=> ?_) (fun c5=> ?_)
  ·
   refine rn hA 3 ?_
   refine ops_split 26 rfl (fun c6=> ?_) (fun c6=> ?_)
   ·
    have c7:fd=false:=bnot_t hA c6
    refine rz hA 6 ?_
    refine gc (fun c8=> ?_) (fun c8=> ?_)
    ·
     refine gy hA 3 ?_
     refine gy hA 2 ?_
     refine⟨(Sr_latest_need_1 cq0 cq1 cq2 cq3 cq4 cq5 cq6 cq7 true a8 (A.rlen a8) (A.num .add .i64 n 1) 0 ByteArray.empty a9 a2 a0 a7 a4 a1 a3 a6 a5),List.length xs - (i+1),?_,by cbv,i+1,(A.num .add .i64 n 1),true,a9,a2,a0,a7,a4,a1,a3,a6,a5,rfl,?_,rfl⟩
     ·
      omega
     refine⟨by rw[add_i64 hA (by omega) (by omega)];omega,by omega,?_⟩
     rw[lat_at b0]
     rw[lat_new (by rw[← b1];assumption) (by rw[← hF];exact Eq.symm (by assumption))]
     exact⟨rfl,rfl⟩
    exact no_f c8 (show true=true from by rfl)
   have c9:fd=true:=bnot_f hA c6
   refine rn hA 3 ?_
   obtain⟨b2,b3,b9⟩:∃(b2:Bool),b2=(bySeqB (⟨q0,⟨q1,q2,q3,q4,q5,q6,q7,q8⟩⟩:GItem) (⟨a9,⟨a2,a0,a7,a4,a1,a3,a6,a5⟩⟩:GItem))∧Real Tryz.prog 106 [.agg [.ii q0,.ii q1,.ii q2,.ii q3,.ii q4,.ii q5,.str q6,.str q7,.str q8],.agg [.ii a9,.ii a2,.ii a0,.ii a7,.ii a4,.ii a1,.str a3,.str a6,.str a5]] (.bool b2):=⟨_,rfl,by exact r_impl_bySeq A hA (⟨q0,⟨q1,q2,q3,q4,q5,q6,q7,q8⟩⟩:GItem) (⟨a9,⟨a2,a0,a7,a4,a1,a3,a6,a5⟩⟩:GItem)⟩
   refine ops_callG rfl rfl rfl rfl (by cbv) (by cbv) b9 (.inr rfl) (by cbv) ?_
   refine rz hA 2 ?_
   refine gc (fun c12=> ?_) (fun c12=> ?_)
   ·
    refine gy hA 3 ?_
    refine gy hA 2 ?_
    refine⟨(Sr_latest_need_1 cq0 cq1 cq2 cq3 cq4 cq5 cq6 cq7 true a8 (A.rlen a8) (A.num .add .i64 n 1) 0 ByteArray.empty a9 a2 a0 a7 a4 a1 a3 a6 a5),List.length xs - (i+1),?_,by cbv,i+1,(A.num .add .i64 n 1),true,a9,a2,a0,a7,a4,a1,a3,a6,a5,rfl,?_,rfl⟩
    ·
     omega
    refine⟨by rw[add_i64 hA (by omega) (by omega)];omega,by omega,?_⟩
    rw[lat_at b0]
    rw[lat_lt (by rw[← b1];assumption) (by rw[← hF];exact Eq.symm (by assumption)) hQ (by rw[← b3];assumption)]
    exact⟨rfl,rfl⟩
   refine gk (gy hA 2 ?_)
   refine⟨(Sr_latest_need_1 cq0 cq1 cq2 cq3 cq4 cq5 cq6 cq7 fd a8 (A.rlen a8) (A.num .add .i64 n 1) 0 ByteArray.empty q0 q1 q2 q3 q4 q5 q6 q7 q8),List.length xs - (i+1),?_,by cbv,i+1,(A.num .add .i64 n 1),fd,q0,q1,q2,q3,q4,q5,q6,q7,q8,rfl,?_,rfl⟩
   ·
    omega
   refine⟨by rw[add_i64 hA (by omega) (by omega)];omega,by omega,?_⟩
   rw[lat_at b0]
   rw[lat_ge (by rw[← hF];exact Eq.symm (by assumption)) hQ (by rw[← b3];assumption)]
   exact⟨hF,hQ⟩
  refine rz hA 9 ?_
  refine gc (fun c13=> ?_) (fun c13=> ?_)
  ·
   exact no_t c13 (show false=false from by rfl)
  refine gk (gy hA 2 ?_)
  refine⟨(Sr_latest_need_1 cq0 cq1 cq2 cq3 cq4 cq5 cq6 cq7 fd a8 (A.rlen a8) (A.num .add .i64 n 1) 0 ByteArray.empty q0 q1 q2 q3 q4 q5 q6 q7 q8),List.length xs - (i+1),?_,by cbv,i+1,(A.num .add .i64 n 1),fd,q0,q1,q2,q3,q4,q5,q6,q7,q8,rfl,?_,rfl⟩
  ·
   omega
  refine⟨by rw[add_i64 hA (by omega) (by omega)];omega,by omega,?_⟩
  rw[lat_at b0]
  rw[lat_no (by rw[← b1];assumption)]
  exact⟨hF,hQ⟩
 have ec1:(A.rlen a8)≤n:=lss_f hA c1
 refine go_exit ⟨fun _=> ?_,fun h=>absurd rfl h⟩
 refine gx hA 4 ?_
 refine rt (gt ?_)
 show _=PV.tup [.agg [.ii q0,.ii q1,.ii q2,.ii q3,.ii q4,.ii q5,.str q6,.str q7,.str q8],.bool fd]
 rw[List.take_of_length_le (by omega)] at hF hQ
 rw[← hF,← hQ]
 rfl
end Go.Av
namespace Go.Av
open Go Go.Proofs
set_option maxRecDepth 100000
set_option maxHeartbeats 4000000
set_option linter.unusedVariables false
set_option linter.unusedSimpArgs false
theorem r_impl_mailItem (A:Alg)(hA:A=std)(xs:List GItem)(k:Int)(v:Int)(u:Int)(hx:(List.length xs:Int)≤4611686018427387904):Real Tryz.prog 111 [.sl 9 (List.map eItem xs),.ii k,.ii v,.ii u] (.tup [.agg (eItem (Option.getD (lat (mailIs k v u) bySeqB xs) zItem)),.bool (Option.isSome (lat (mailIs k v u) bySeqB xs))]):=by
 obtain⟨j0,c7⟩:=nm (xs.map eItem)
 have n9:=rlen_map hA c7
 refine real_args (args':=[.sl 9 j0,.ii k,.ii v,.ii u]) (by subst c7;rfl) ?_
 refine real tyOk Tryz.func111 (by kernel_rfl) (afun_of rfl ?_)
 refine gx hA 5 ?_
 refine gs (gr (rn hA 2 ?_))
 obtain⟨g3,b9,a3,c2,b3,a4,b5,a8,b2,l2,n5,l3,k5,n0,m7,k2,m4,m1,l5,n8,hc2⟩:∃(g3:Int) (b9:Int) (a3:Int) (c2:Int) (b3:Int) (a4:Int) (b5:ByteArray) (a8:ByteArray) (b2:ByteArray) (l2:Bool),g3=((Option.getD (lat (mailIs k v u) bySeqB xs) zItem).Seq)∧b9=(((Option.getD (lat (mailIs k v u) bySeqB xs) zItem).Rec).Kind)∧a3=(((Option.getD (lat (mailIs k v u) bySeqB xs) zItem).Rec).Valid)∧c2=(((Option.getD (lat (mailIs k v u) bySeqB xs) zItem).Rec).Uid)∧b3=(((Option.getD (lat (mailIs k v u) bySeqB xs) zItem).Rec).Next)∧a4=(((Option.getD (lat (mailIs k v u) bySeqB xs) zItem).Rec).Flags)∧b5=(((Option.getD (lat (mailIs k v u) bySeqB xs) zItem).Rec).User)∧a8=(((Option.getD (lat (mailIs k v u) bySeqB xs) zItem).Rec).Name)∧b2=(((Option.getD (lat (mailIs k v u) bySeqB xs) zItem).Rec).Text)∧l2=(Option.isSome (lat (mailIs k v u) bySeqB xs))∧Real Tryz.prog 103 [.sl 9 j0,.fn 137 [.rd [.ii k],.rd [.ii v],.rd [.ii u]],.fn 106 []] (.tup [.agg [.ii g3,.ii b9,.ii a3,.ii c2,.ii b3,.ii a4,.str b5,.str a8,.str b2],.bool l2]):=⟨_,_,_,_,_,_,_,_,_,_,rfl,rfl,rfl,rfl,rfl,rfl,rfl,rfl,rfl,rfl,by subst c7;exact r_latest_mail A hA xs k v u (by assumption)⟩
 refine cvw hc2 (.inl (by simp only[fresh,freshL,and_self])) ?_
 refine rz hA 4 ?_
 refine rt (gt ?_)
 show _=PV.tup [.agg [.ii g3,.ii b9,.ii a3,.ii c2,.ii b3,.ii a4,.str b5,.str a8,.str b2],.bool l2]
 simp only[n5,l3,k5,n0,m7,k2,m4,m1,l5,n8]
 rfl
theorem r_impl_boxThere (A:Alg)(hA:A=std)(xs:List GItem)(v:Int)(hx:(List.length xs:Int)≤4611686018427387904):Real Tryz.prog 72 [.sl 9 (List.map eItem xs),.ii v] (.tup [.agg (eItem (Option.getD (boxAt v xs) zItem)),.bool (Option.isSome (boxAt v xs))]):=by
 obtain⟨j0,c7⟩:=nm (xs.map eItem)
 have n9:=rlen_map hA c7
 refine real_args (args':=[.sl 9 j0,.ii v]) (by subst c7;rfl) ?_
 refine real tyOk Tryz.func72 (by kernel_rfl) (afun_of rfl ?_)
 refine gx hA 3 ?_
 refine gs (gs (gr (rn hA 2 ?_)))
 obtain⟨j4,e2,e1,f8,e9,d1,e4,e7,f7,n2,k3,i2,g8,j3,i8,g5,i0,i1,i6,j8,hc2⟩:∃(j4:Int) (e2:Int) (e1:Int) (f8:Int) (e9:Int) (d1:Int) (e4:ByteArray) (e7:ByteArray) (f7:ByteArray) (n2:Bool),j4=((Option.getD (lat (kindIs 2 v) bySeqB xs) zItem).Seq)∧e2=(((Option.getD (lat (kindIs 2 v) bySeqB xs) zItem).Rec).Kind)∧e1=(((Option.getD (lat (kindIs 2 v) bySeqB xs) zItem).Rec).Valid)∧f8=(((Option.getD (lat (kindIs 2 v) bySeqB xs) zItem).Rec).Uid)∧e9=(((Option.getD (lat (kindIs 2 v) bySeqB xs) zItem).Rec).Next)∧d1=(((Option.getD (lat (kindIs 2 v) bySeqB xs) zItem).Rec).Flags)∧e4=(((Option.getD (lat (kindIs 2 v) bySeqB xs) zItem).Rec).User)∧e7=(((Option.getD (lat (kindIs 2 v) bySeqB xs) zItem).Rec).Name)∧f7=(((Option.getD (lat (kindIs 2 v) bySeqB xs) zItem).Rec).Text)∧n2=(Option.isSome (lat (kindIs 2 v) bySeqB xs))∧Real Tryz.prog 103 [.sl 9 j0,.fn 104 [.rd [.ii v]],.fn 106 []] (.tup [.agg [.ii j4,.ii e2,.ii e1,.ii f8,.ii e9,.ii d1,.str e4,.str e7,.str f7],.bool n2]):=⟨_,_,_,_,_,_,_,_,_,_,rfl,rfl,rfl,rfl,rfl,rfl,rfl,rfl,rfl,rfl,by subst c7;exact r_latest_drop A hA xs v (by assumption)⟩
 refine cvw hc2 (.inl (by simp only[fresh,freshL,and_self])) ?_
 refine rz hA 6 ?_
 refine gx hA 1 ?_
 refine gc (fun c3=> ?_) (fun c3=> ?_)
 ·
  refine gx hA 3 ?_
  refine rt (gt ?_)
  show _=PV.tup [.agg [.ii 0,.ii 0,.ii 0,.ii 0,.ii 0,.ii 0,.str ByteArray.empty,.str ByteArray.empty,.str ByteArray.empty],.bool false]
  have k6:(Option.isSome (lat (kindIs 2 v) bySeqB xs))=true:=by rw[← j8];assumption
  rw[boxAt,if_pos (k6)]
  try simp only[k3,i2,g8,j3,i8,g5,i0,i1,i6,j8]
  rfl
 refine gk (gs (gr (rn hA 2 ?_)))
 obtain⟨g4,c0,a2,c6,b6,a1,a9,b8,a6,l1,n4,m0,k4,m8,m6,k0,m2,m3,l9,n7,hc5⟩:∃(g4:Int) (c0:Int) (a2:Int) (c6:Int) (b6:Int) (a1:Int) (a9:ByteArray) (b8:ByteArray) (a6:ByteArray) (l1:Bool),g4=((Option.getD (lat (kindIs 1 v) byNextB xs) zItem).Seq)∧c0=(((Option.getD (lat (kindIs 1 v) byNextB xs) zItem).Rec).Kind)∧a2=(((Option.getD (lat (kindIs 1 v) byNextB xs) zItem).Rec).Valid)∧c6=(((Option.getD (lat (kindIs 1 v) byNextB xs) zItem).Rec).Uid)∧b6=(((Option.getD (lat (kindIs 1 v) byNextB xs) zItem).Rec).Next)∧a1=(((Option.getD (lat (kindIs 1 v) byNextB xs) zItem).Rec).Flags)∧a9=(((Option.getD (lat (kindIs 1 v) byNextB xs) zItem).Rec).User)∧b8=(((Option.getD (lat (kindIs 1 v) byNextB xs) zItem).Rec).Name)∧a6=(((Option.getD (lat (kindIs 1 v) byNextB xs) zItem).Rec).Text)∧l1=(Option.isSome (lat (kindIs 1 v) byNextB xs))∧Real Tryz.prog 103 [.sl 9 j0,.fn 107 [.rd [.ii v]],.fn 108 []] (.tup [.agg [.ii g4,.ii c0,.ii a2,.ii c6,.ii b6,.ii a1,.str a9,.str b8,.str a6],.bool l1]):=⟨_,_,_,_,_,_,_,_,_,_,rfl,rfl,rfl,rfl,rfl,rfl,rfl,rfl,rfl,rfl,by subst c7;exact r_latest_box A hA xs v (by assumption)⟩
 refine cvw hc5 (.inl (by simp only[fresh,freshL,and_self])) ?_
 refine rz hA 4 ?_
 refine rt (gt ?_)
 show _=PV.tup [.agg [.ii g4,.ii c0,.ii a2,.ii c6,.ii b6,.ii a1,.str a9,.str b8,.str a6],.bool l1]
 have k6:(Option.isSome (lat (kindIs 2 v) bySeqB xs))=false:=by rw[← j8];assumption
 rw[boxAt,if_neg (by rw[k6];decide)]
 try simp only[k3,i2,g8,j3,i8,g5,i0,i1,i6,j8,n4,m0,k4,m8,m6,k0,m2,m3,l9,n7]
 rfl
theorem r_impl_mailThere (A:Alg)(hA:A=std)(xs:List GItem)(v:Int)(u:Int)(hx:(List.length xs:Int)≤4611686018427387904):Real Tryz.prog 110 [.sl 9 (List.map eItem xs),.ii v,.ii u] (.tup [.agg (eItem (Option.getD (mailAt v u xs) zItem)),.bool (Option.isSome (mailAt v u xs))]):=by
 obtain⟨j0,c7⟩:=nm (xs.map eItem)
 have n9:=rlen_map hA c7
 refine real_args (args':=[.sl 9 j0,.ii v,.ii u]) (by subst c7;rfl) ?_
 refine real tyOk Tryz.func110 (by kernel_rfl) (afun_of rfl ?_)
 refine gx hA 2 ?_
 refine gs (gs (gr (rn hA 2 ?_)))
 obtain⟨j6,e6,d9,f9,f1,d4,e8,e5,e3,j7,j2,e0,c9,f0,d7,d0,d3,d8,d5,g1,hc2⟩:∃(j6:Int) (e6:Int) (d9:Int) (f9:Int) (f1:Int) (d4:Int) (e8:ByteArray) (e5:ByteArray) (e3:ByteArray) (j7:Bool),j6=((Option.getD (boxAt v xs) zItem).Seq)∧e6=(((Option.getD (boxAt v xs) zItem).Rec).Kind)∧d9=(((Option.getD (boxAt v xs) zItem).Rec).Valid)∧f9=(((Option.getD (boxAt v xs) zItem).Rec).Uid)∧f1=(((Option.getD (boxAt v xs) zItem).Rec).Next)∧d4=(((Option.getD (boxAt v xs) zItem).Rec).Flags)∧e8=(((Option.getD (boxAt v xs) zItem).Rec).User)∧e5=(((Option.getD (boxAt v xs) zItem).Rec).Name)∧e3=(((Option.getD (boxAt v xs) zItem).Rec).Text)∧j7=(Option.isSome (boxAt v xs))∧Real Tryz.prog 72 [.sl 9 j0,.ii v] (.tup [.agg [.ii j6,.ii e6,.ii d9,.ii f9,.ii f1,.ii d4,.str e8,.str e5,.str e3],.bool j7]):=⟨_,_,_,_,_,_,_,_,_,_,rfl,rfl,rfl,rfl,rfl,rfl,rfl,rfl,rfl,rfl,by subst c7;exact r_impl_boxThere A hA xs v (by assumption)⟩
 refine cvw hc2 (.inr rfl) ?_
 refine rz hA 6 ?_
 refine gx hA 2 ?_
 refine gc (fun c3=> ?_) (fun c3=> ?_)
 ·
  have c4:j7=false:=bnot_t hA c3
  refine gx hA 3 ?_
  refine rt (gt ?_)
  show _=PV.tup [.agg [.ii 0,.ii 0,.ii 0,.ii 0,.ii 0,.ii 0,.str ByteArray.empty,.str ByteArray.empty,.str ByteArray.empty],.bool false]
  have g6:(Option.isSome (boxAt v xs))=false:=by rw[← g1];assumption
  rw[mailAt,if_neg (by rw[g6];decide)]
  try simp only[j2,e0,c9,f0,d7,d0,d3,d8,d5,g1]
  rfl
 have c5:j7=true:=bnot_f hA c3
 refine gk (gs (gs (gr (rn hA 3 ?_))))
 obtain⟨j5,f3,d2,g0,f6,d6,f4,f2,f5,n1,k1,i5,g9,j1,i7,g7,i9,i4,i3,j9,hc7⟩:∃(j5:Int) (f3:Int) (d2:Int) (g0:Int) (f6:Int) (d6:Int) (f4:ByteArray) (f2:ByteArray) (f5:ByteArray) (n1:Bool),j5=((Option.getD (lat (mailIs 5 v u) bySeqB xs) zItem).Seq)∧f3=(((Option.getD (lat (mailIs 5 v u) bySeqB xs) zItem).Rec).Kind)∧d2=(((Option.getD (lat (mailIs 5 v u) bySeqB xs) zItem).Rec).Valid)∧g0=(((Option.getD (lat (mailIs 5 v u) bySeqB xs) zItem).Rec).Uid)∧f6=(((Option.getD (lat (mailIs 5 v u) bySeqB xs) zItem).Rec).Next)∧d6=(((Option.getD (lat (mailIs 5 v u) bySeqB xs) zItem).Rec).Flags)∧f4=(((Option.getD (lat (mailIs 5 v u) bySeqB xs) zItem).Rec).User)∧f2=(((Option.getD (lat (mailIs 5 v u) bySeqB xs) zItem).Rec).Name)∧f5=(((Option.getD (lat (mailIs 5 v u) bySeqB xs) zItem).Rec).Text)∧n1=(Option.isSome (lat (mailIs 5 v u) bySeqB xs))∧Real Tryz.prog 111 [.sl 9 j0,.ii 5,.ii v,.ii u] (.tup [.agg [.ii j5,.ii f3,.ii d2,.ii g0,.ii f6,.ii d6,.str f4,.str f2,.str f5],.bool n1]):=⟨_,_,_,_,_,_,_,_,_,_,rfl,rfl,rfl,rfl,rfl,rfl,rfl,rfl,rfl,rfl,by subst c7;exact r_impl_mailItem A hA xs 5 v u (by assumption)⟩
 refine cvw hc7 (.inr rfl) ?_
 refine rz hA 6 ?_
 refine gx hA 1 ?_
 refine gc (fun c8=> ?_) (fun c8=> ?_)
 ·
  refine gx hA 3 ?_
  refine rt (gt ?_)
  show _=PV.tup [.agg [.ii 0,.ii 0,.ii 0,.ii 0,.ii 0,.ii 0,.str ByteArray.empty,.str ByteArray.empty,.str ByteArray.empty],.bool false]
  have g6:(Option.isSome (boxAt v xs))=true:=by rw[← g1];assumption
  have k9:(Option.isSome (lat (mailIs 5 v u) bySeqB xs))=true:=by rw[← j9];assumption
  rw[mailAt,if_pos (g6),if_pos (k9)]
  try simp only[j2,e0,c9,f0,d7,d0,d3,d8,d5,g1,k1,i5,g9,j1,i7,g7,i9,i4,i3,j9]
  rfl
 refine gk (gs (gr (rn hA 3 ?_)))
 obtain⟨g2,b7,a0,c1,b1,a5,a7,b4,b0,l0,n3,l6,k7,m9,l7,k8,l4,l8,m5,n6,o0⟩:∃(g2:Int) (b7:Int) (a0:Int) (c1:Int) (b1:Int) (a5:Int) (a7:ByteArray) (b4:ByteArray) (b0:ByteArray) (l0:Bool),g2=((Option.getD (lat (mailIs 3 v u) bySeqB xs) zItem).Seq)∧b7=(((Option.getD (lat (mailIs 3 v u) bySeqB xs) zItem).Rec).Kind)∧a0=(((Option.getD (lat (mailIs 3 v u) bySeqB xs) zItem).Rec).Valid)∧c1=(((Option.getD (lat (mailIs 3 v u) bySeqB xs) zItem).Rec).Uid)∧b1=(((Option.getD (lat (mailIs 3 v u) bySeqB xs) zItem).Rec).Next)∧a5=(((Option.getD (lat (mailIs 3 v u) bySeqB xs) zItem).Rec).Flags)∧a7=(((Option.getD (lat (mailIs 3 v u) bySeqB xs) zItem).Rec).User)∧b4=(((Option.getD (lat (mailIs 3 v u) bySeqB xs) zItem).Rec).Name)∧b0=(((Option.getD (lat (mailIs 3 v u) bySeqB xs) zItem).Rec).Text)∧l0=(Option.isSome (lat (mailIs 3 v u) bySeqB xs))∧Real Tryz.prog 111 [.sl 9 j0,.ii 3,.ii v,.ii u] (.tup [.agg [.ii g2,.ii b7,.ii a0,.ii c1,.ii b1,.ii a5,.str a7,.str b4,.str b0],.bool l0]):=⟨_,_,_,_,_,_,_,_,_,_,rfl,rfl,rfl,rfl,rfl,rfl,rfl,rfl,rfl,rfl,by subst c7;exact r_impl_mailItem A hA xs 3 v u (by assumption)⟩
 refine cvw o0 (.inr rfl) ?_
 refine rz hA 4 ?_
 refine rt (gt ?_)
 show _=PV.tup [.agg [.ii g2,.ii b7,.ii a0,.ii c1,.ii b1,.ii a5,.str a7,.str b4,.str b0],.bool l0]
 have g6:(Option.isSome (boxAt v xs))=true:=by rw[← g1];assumption
 have k9:(Option.isSome (lat (mailIs 5 v u) bySeqB xs))=false:=by rw[← j9];assumption
 rw[mailAt,if_pos (g6),if_neg (by rw[k9];decide)]
 try simp only[j2,e0,c9,f0,d7,d0,d3,d8,d5,g1,k1,i5,g9,j1,i7,g7,i9,i4,i3,j9,n3,l6,k7,m9,l7,k8,l4,l8,m5,n6]
 rfl
end Go.Av
