/- Walks: the reference on what items tell. -/
import Derived.Test.YtjbokkoiicoahaaGreatDoorJ6
import Derived.Test.YtjbokkoiicoahaaGreatDoorPl
import Derived.Test.YtjbokkoiicoahaaGreatDoorJ3
namespace Go.Av
open Go Go.Proofs
set_option maxRecDepth 100000
set_option maxHeartbeats 4000000
set_option linter.unusedVariables false
set_option linter.unusedSimpArgs false
theorem tell_no {b:Option GItem}{y:GItem}(hy:y=b.getD zItem)(hb:∀ x,b=some x→1≤x.Seq)(h:y.Seq=0):false=b.isSome:=by
 cases b with
 | none=>rfl
 | some z=>
  have h1:=hb z rfl
  have hy:y=z:=hy
  rw[hy] at h;omega
theorem tell_some {b:Option GItem}{y:GItem}(hy:y=b.getD zItem)(h:y.Seq≠0):true=b.isSome:=by
 cases b with
 | none=>rw[hy] at h;exact absurd rfl h
 | some z=>rfl
theorem filter_at {p:Int→Bool}{xs:List Int}{i:Nat}{x:Int}(h:xs[i]? =some x):(xs.take (i+1)).filter p=if p x=true then (xs.take i).filter p++[x] else (xs.take i).filter p:=by
 rw[List.take_add_one,h,Option.toList_some,List.filter_append]
 by_cases hk:p x=true<;>simp[List.filter_cons,hk]
theorem filter_len (p:Int→Bool)(xs:List Int)(i:Nat):((xs.take i).filter p).length≤xs.length:=by
 have h1:=List.length_filter_le p (xs.take i)
 rw[List.length_take] at h1;omega
theorem nextR_at {v:Int}{xs:List GItem}{i:Nat}{x:GItem}(h:xs[i]? =some x):nextR v (xs.take (i+1))=max (nextR v (xs.take i)) (nextK v x.Rec):=by
 rw[List.take_add_one,h];simp[nextR,List.foldl_append]
theorem rec_uid {r:GRec}(h:recOk r=true):0≤r.Uid∧r.Uid≤9999:=by
 simp only[recOk,inR,Bool.and_eq_true,Bool.or_eq_true,decide_eq_true_eq] at h
 omega
def S55_1 (p0:RR)(p1:Int)(p2:Int)(p3:Int)(p4:Bool)(p5:Int)(p6:Int)(p7:ByteArray)(p8:Int)(p9:Int)(p10:Int)(p11:Int)(p12:Int)(p13:Int)(p14:ByteArray)(p15:ByteArray)(p16:ByteArray):St:={sl:=[.sl 9 p0,.ii p1,.ii p2,.ii p3,.bad,.bad,.bad,.bad,.pt 8 0 0,.bad,.pt 10 0 0,.bool p4,.ii p5,.bad,.bad,.bad,.bad,.bad,.bad,.bad,.bad,.bad,.bad,.bad,.bad,.bad,.bad,.bad,.bad,.bad,.bad,.bad,.bad,.bad,.bad,.bad,.bad,.bad,.bad,.bad,.bad,.bad,.bad,.bad,.bad,.bad,.bad,.bad,.bad,.bad,.bad,.bad,.bad,.bad,.bad,.bad,.bad,.bad],bl:=[(8,⟨.var,9,[[.ii p6,.ii p6,.ii p6,.ii p6,.ii p6,.ii p6,.str p7,.str p7,.str p7]]⟩),(10,⟨.var,9,[[.ii p8,.ii p9,.ii p10,.ii p11,.ii p12,.ii p13,.str p14,.str p15,.str p16]]⟩)]}
theorem r_spec_l07Best (A:Alg)(hA:A=std)(xs:List GItem)(k:Int)(v:Int)(u:Int)(hx:(List.length xs:Int)≤4611686018427387904):Real Tryz.prog 55 [.sl 9 (List.map eItem xs),.ii k,.ii v,.ii u] (.tup [.agg (eItem (Option.getD (lat (mailIs k v u) bySeqB xs) zItem)),.bool (Option.isSome (lat (mailIs k v u) bySeqB xs))]):=by
 obtain⟨a9,b2⟩:=nm (xs.map eItem)
 have b9:=rlen_map hA b2
 refine real_args (args':=[.sl 9 a9,.ii k,.ii v,.ii u]) (by subst b2;rfl) ?_
 refine real tyOk Tryz.func55 (by kernel_rfl) (afun_of rfl ?_)
 refine gx hA 2 ?_
 refine gx hA 3 ?_
 refine gx hA 1 ?_
 refine gs (gx hA 1 ?_)
 refine go_block ?_
 refine go_loopE (fun σ m=>∃(i:Nat) (n:Int) (fd:Bool) (q0:Int) (q1:Int) (q2:Int) (q3:Int) (q4:Int) (q5:Int) (q6:ByteArray) (q7:ByteArray) (q8:ByteArray),σ=(S55_1 a9 k v u fd n 0 ByteArray.empty q0 q1 q2 q3 q4 q5 q6 q7 q8)∧(n=(i:Int)∧i≤List.length xs∧fd=Option.isSome (lat (mailIs k v u) bySeqB (xs.take i))∧(⟨q0,⟨q1,q2,q3,q4,q5,q6,q7,q8⟩⟩:GItem)=Option.getD (lat (mailIs k v u) bySeqB (xs.take i)) zItem)∧m=List.length xs - i) _ [.up 10,.up 8] [0,1,2,3,8,10,11,12] [8,10] (S55_1 a9 k v u false 0 0 ByteArray.empty 0 0 0 0 0 0 ByteArray.empty ByteArray.empty ByteArray.empty) rfl (by cbv) ⟨0,0,false,0,0,0,0,0,0,ByteArray.empty,ByteArray.empty,ByteArray.empty,rfl,?_,rfl⟩ (fun σ m hI=> ?_)
 ·
  exact⟨rfl,Nat.zero_le _,rfl,rfl⟩
 obtain⟨i,n,fd,q0,q1,q2,q3,q4,q5,q6,q7,q8,rfl,⟨hn,hi,hF,hQ⟩,rfl⟩:=hI
 refine gs (gx hA 4 ?_)
 refine gc (fun c1=> ?_) (fun c1=> ?_)
 ·
  have ec1:n < (A.rlen a9):=lss_t hA c1
  refine gk (gs ?_)
  refine go_block ?_
  refine gs (gr (rn hA 2 ?_))
  have b4:(0:Int)≤n:=by
   omega
  have b6:(Int.toNat n) < List.length xs:=by
   omega
  obtain⟨x2,hx2⟩:∃ x,(xs)[(Int.toNat n)]? =some x:=⟨_,List.getElem?_eq_getElem b6⟩
  have c0:=List.mem_of_getElem? hx2
  obtain⟨a8,⟨a3,a2,a1,a0,a4,a7,a5,a6⟩⟩:=x2
  have b5:a9[(Int.toNat n)]? =some [.ii a8,.ii a3,.ii a2,.ii a1,.ii a0,.ii a4,.str a7,.str a5,.str a6]:=by
   exact map_at eItem b2 hx2
  have b0:=hx2
  rw[hn] at b0
  have b0:(xs)[i]? =some (⟨a8,⟨a3,a2,a1,a0,a4,a7,a5,a6⟩⟩:GItem):=b0
  refine ops_step rfl rfl (idx_sl rfl rfl rfl rfl rfl b4 rfl b5) ?_
  refine rz hA 3 ?_
  refine gs (gr (rn hA 6 ?_))
  refine ops_split 30 rfl (fun c3=> ?_) (fun c3=> ?_)
  ·
   have ec3:a3=k:=eql_t hA c3
   refine rn hA 7 ?_
   refine ops_split 37 rfl (fun c4=> ?_) (fun c4=> ?_)
   ·
    have ec4:a2=v:=eql_t hA c4
    refine rn hA 7 ?_
    refine ops_split 44 rfl (fun c5=> ?_) (fun c5=> ?_)
    ·
     have ec5:a1=u:=eql_t hA c5
     refine rn hA 3 ?_
     refine ops_split 47 rfl (fun c6=> ?_) (fun c6=> ?_)
     ·
      have c7:fd=false:=bnot_t hA c6
      refine rz hA 7 ?_
      refine gc (fun c8=> ?_) (fun c8=> ?_)
      ·
       refine gx hA 2 ?_
       refine gy hA 1 ?_
       refine gy hA 3 ?_
       refine⟨(S55_1 a9 k v u true (A.num .add .i64 n 1) 0 ByteArray.empty a8 a3 a2 a1 a0 a4 a7 a5 a6),List.length xs - (i+1),?_,by cbv,i+1,(A.num .add .i64 n 1),true,a8,a3,a2,a1,a0,a4,a7,a5,a6,rfl,?_,rfl⟩
       ·
        omega
       have hp:mailIs k v u (GItem.Rec (⟨a8,⟨a3,a2,a1,a0,a4,a7,a5,a6⟩⟩:GItem))=true:=by simp[mailIs,kindIs,ec1,ec3,ec4,ec5,c7]
       refine⟨by rw[add_i64 hA (by omega) (by omega)];omega,by omega,?_⟩
       rw[lat_at b0]
       rw[lat_new hp (by rw[← hF];exact Eq.symm (by assumption))]
       exact⟨rfl,rfl⟩
      exact no_f c8 (show true=true from by rfl)
     have c9:fd=true:=bnot_f hA c6
     refine rz hA 7 ?_
     refine gc (fun c10=> ?_) (fun c10=> ?_)
     ·
      have b1:q0 < a8:=gtr_t hA c10
      refine gx hA 2 ?_
      refine gy hA 1 ?_
      refine gy hA 3 ?_
      refine⟨(S55_1 a9 k v u true (A.num .add .i64 n 1) 0 ByteArray.empty a8 a3 a2 a1 a0 a4 a7 a5 a6),List.length xs - (i+1),?_,by cbv,i+1,(A.num .add .i64 n 1),true,a8,a3,a2,a1,a0,a4,a7,a5,a6,rfl,?_,rfl⟩
      ·
       omega
      have hp:mailIs k v u (GItem.Rec (⟨a8,⟨a3,a2,a1,a0,a4,a7,a5,a6⟩⟩:GItem))=true:=by simp[mailIs,kindIs,ec1,ec3,ec4,ec5,c9,b1]
      have hl:bySeqB (⟨q0,⟨q1,q2,q3,q4,q5,q6,q7,q8⟩⟩:GItem) (⟨a8,⟨a3,a2,a1,a0,a4,a7,a5,a6⟩⟩:GItem)=true:=by simp[bySeqB,ec1,ec3,ec4,ec5,c9,b1]
      refine⟨by rw[add_i64 hA (by omega) (by omega)];omega,by omega,?_⟩
      rw[lat_at b0]
      rw[lat_lt hp (by rw[← hF];exact Eq.symm (by assumption)) hQ hl]
      exact⟨rfl,rfl⟩
     have b1:a8≤q0:=gtr_f hA c10
     refine gk (gy hA 3 ?_)
     refine⟨(S55_1 a9 k v u fd (A.num .add .i64 n 1) 0 ByteArray.empty q0 q1 q2 q3 q4 q5 q6 q7 q8),List.length xs - (i+1),?_,by cbv,i+1,(A.num .add .i64 n 1),fd,q0,q1,q2,q3,q4,q5,q6,q7,q8,rfl,?_,rfl⟩
     ·
      omega
     have hp:mailIs k v u (GItem.Rec (⟨a8,⟨a3,a2,a1,a0,a4,a7,a5,a6⟩⟩:GItem))=true:=by simp[mailIs,kindIs,ec1,ec3,ec4,ec5,c9,b1,Int.not_lt.2 b1]
     have hl:bySeqB (⟨q0,⟨q1,q2,q3,q4,q5,q6,q7,q8⟩⟩:GItem) (⟨a8,⟨a3,a2,a1,a0,a4,a7,a5,a6⟩⟩:GItem)=false:=by simp[bySeqB,ec1,ec3,ec4,ec5,c9,b1,Int.not_lt.2 b1]
     refine⟨by rw[add_i64 hA (by omega) (by omega)];omega,by omega,?_⟩
     rw[lat_at b0]
     rw[lat_ge (by rw[← hF];exact Eq.symm (by assumption)) hQ hl]
     exact⟨hF,hQ⟩
    have ec5:a1≠u:=eql_f hA c5
    refine rz hA 10 ?_
    refine gc (fun c11=> ?_) (fun c11=> ?_)
    ·
     exact no_t c11 (show false=false from by rfl)
    refine gk (gy hA 3 ?_)
    refine⟨(S55_1 a9 k v u fd (A.num .add .i64 n 1) 0 ByteArray.empty q0 q1 q2 q3 q4 q5 q6 q7 q8),List.length xs - (i+1),?_,by cbv,i+1,(A.num .add .i64 n 1),fd,q0,q1,q2,q3,q4,q5,q6,q7,q8,rfl,?_,rfl⟩
    ·
     omega
    have hp:mailIs k v u (GItem.Rec (⟨a8,⟨a3,a2,a1,a0,a4,a7,a5,a6⟩⟩:GItem))=false:=by simp[mailIs,kindIs,ec1,ec3,ec4,ec5,ec5.symm]
    refine⟨by rw[add_i64 hA (by omega) (by omega)];omega,by omega,?_⟩
    rw[lat_at b0]
    rw[lat_no hp]
    exact⟨hF,hQ⟩
   have ec4:a2≠v:=eql_f hA c4
   refine rz hA 17 ?_
   refine gc (fun c12=> ?_) (fun c12=> ?_)
   ·
    exact no_t c12 (show false=false from by rfl)
   refine gk (gy hA 3 ?_)
   refine⟨(S55_1 a9 k v u fd (A.num .add .i64 n 1) 0 ByteArray.empty q0 q1 q2 q3 q4 q5 q6 q7 q8),List.length xs - (i+1),?_,by cbv,i+1,(A.num .add .i64 n 1),fd,q0,q1,q2,q3,q4,q5,q6,q7,q8,rfl,?_,rfl⟩
   ·
    omega
   have hp:mailIs k v u (GItem.Rec (⟨a8,⟨a3,a2,a1,a0,a4,a7,a5,a6⟩⟩:GItem))=false:=by simp[mailIs,kindIs,ec1,ec3,ec4,ec4.symm]
   refine⟨by rw[add_i64 hA (by omega) (by omega)];omega,by omega,?_⟩
   rw[lat_at b0]
   rw[lat_no hp]
   exact⟨hF,hQ⟩
  have ec3:a3≠k:=eql_f hA c3
  refine rz hA 24 ?_
  refine gc (fun c13=> ?_) (fun c13=> ?_)
  ·
   exact no_t c13 (show false=false from by rfl)
  refine gk (gy hA 3 ?_)
  refine⟨(S55_1 a9 k v u fd (A.num .add .i64 n 1) 0 ByteArray.empty q0 q1 q2 q3 q4 q5 q6 q7 q8),List.length xs - (i+1),?_,by cbv,i+1,(A.num .add .i64 n 1),fd,q0,q1,q2,q3,q4,q5,q6,q7,q8,rfl,?_,rfl⟩
  ·
   omega
  have hp:mailIs k v u (GItem.Rec (⟨a8,⟨a3,a2,a1,a0,a4,a7,a5,a6⟩⟩:GItem))=false:=by simp[mailIs,kindIs,ec1,ec3,ec3.symm]
  refine⟨by rw[add_i64 hA (by omega) (by omega)];omega,by omega,?_⟩
  rw[lat_at b0]
  rw[lat_no hp]
  exact⟨hF,hQ⟩
 have ec1:(A.rlen a9)≤n:=lss_f hA c1
 refine go_exit ⟨fun _=> ?_,fun h=>absurd rfl h⟩
 refine gx hA 4 ?_
 refine rt (gt ?_)
 show _=PV.tup [.agg [.ii q0,.ii q1,.ii q2,.ii q3,.ii q4,.ii q5,.str q6,.str q7,.str q8],.bool fd]
 rw[List.take_of_length_le (by omega)] at hF hQ
 rw[← hF,← hQ]
 rfl
def S57_1 (p0:RR)(p1:Int)(p2:Int)(p3:Int)(p4:ByteArray)(p5:Int)(p6:Int)(p7:Int)(p8:Int)(p9:Int)(p10:Int)(p11:ByteArray)(p12:ByteArray)(p13:ByteArray):St:={sl:=[.sl 9 p0,.ii p1,.bad,.bad,.pt 4 0 0,.pt 5 0 0,.ii p2,.bad,.bad,.bad,.bad,.bad,.bad,.bad,.bad,.bad,.bad,.bad,.bad,.bad,.bad,.bad,.bad,.bad,.bad,.bad,.bad,.bad,.bad,.bad,.bad,.bad,.bad,.bad,.bad,.bad,.bad,.bad,.bad,.bad,.bad,.bad,.bad,.bad,.bad,.bad,.bad,.bad,.bad,.bad,.bad,.bad,.bad,.bad,.bad,.bad,.bad,.bad,.bad,.bad],bl:=[(4,⟨.var,9,[[.ii p3,.ii p3,.ii p3,.ii p3,.ii p3,.ii p3,.str p4,.str p4,.str p4]]⟩),(5,⟨.var,9,[[.ii p5,.ii p6,.ii p7,.ii p8,.ii p9,.ii p10,.str p11,.str p12,.str p13]]⟩)]}
theorem r_spec_l07Tell (A:Alg)(hA:A=std)(xs:List GItem)(v:Int)(hx:(List.length xs:Int)≤4611686018427387904)(hq:∀ x∈xs,1≤x.Seq):Real Tryz.prog 57 [.sl 9 (List.map eItem xs),.ii v] (.agg (eItem (Option.getD (lat (kindIs 1 v) byNextB xs) zItem))):=by
 obtain⟨a9,b2⟩:=nm (xs.map eItem)
 have b9:=rlen_map hA b2
 refine real_args (args':=[.sl 9 a9,.ii v]) (by subst b2;rfl) ?_
 refine real tyOk Tryz.func57 (by kernel_rfl) (afun_of rfl ?_)
 refine gx hA 1 ?_
 refine gx hA 3 ?_
 refine gs (gx hA 1 ?_)
 refine go_block ?_
 refine go_loopE (fun σ m=>∃(i:Nat) (n:Int) (q0:Int) (q1:Int) (q2:Int) (q3:Int) (q4:Int) (q5:Int) (q6:ByteArray) (q7:ByteArray) (q8:ByteArray),σ=(S57_1 a9 v n 0 ByteArray.empty q0 q1 q2 q3 q4 q5 q6 q7 q8)∧(n=(i:Int)∧i≤List.length xs∧(⟨q0,⟨q1,q2,q3,q4,q5,q6,q7,q8⟩⟩:GItem)=Option.getD (lat (kindIs 1 v) byNextB (xs.take i)) zItem)∧m=List.length xs - i) _ [.up 5,.up 4] [0,1,4,5,6] [4,5] (S57_1 a9 v 0 0 ByteArray.empty 0 0 0 0 0 0 ByteArray.empty ByteArray.empty ByteArray.empty) rfl (by cbv) ⟨0,0,0,0,0,0,0,0,ByteArray.empty,ByteArray.empty,ByteArray.empty,rfl,?_,rfl⟩ (fun σ m hI=> ?_)
 ·
  exact⟨rfl,Nat.zero_le _,rfl⟩
 obtain⟨i,n,q0,q1,q2,q3,q4,q5,q6,q7,q8,rfl,⟨hn,hi,hQ⟩,rfl⟩:=hI
 refine gs (gx hA 4 ?_)
 refine gc (fun c1=> ?_) (fun c1=> ?_)
 ·
  have ec1:n < (A.rlen a9):=lss_t hA c1
  refine gk (gs ?_)
  refine go_block ?_
  refine gs (gr (rn hA 2 ?_))
  have b4:(0:Int)≤n:=by
   omega
  have b6:(Int.toNat n) < List.length xs:=by
   omega
  obtain⟨x2,hx2⟩:∃ x,(xs)[(Int.toNat n)]? =some x:=⟨_,List.getElem?_eq_getElem b6⟩
  have c0:=List.mem_of_getElem? hx2
  obtain⟨a8,⟨a3,a2,a1,a0,a4,a7,a5,a6⟩⟩:=x2
  have b5:a9[(Int.toNat n)]? =some [.ii a8,.ii a3,.ii a2,.ii a1,.ii a0,.ii a4,.str a7,.str a5,.str a6]:=by
   exact map_at eItem b2 hx2
  have b0:=hx2
  rw[hn] at b0
  have b0:(xs)[i]? =some (⟨a8,⟨a3,a2,a1,a0,a4,a7,a5,a6⟩⟩:GItem):=b0
  refine ops_step rfl rfl (idx_sl rfl rfl rfl rfl rfl b4 rfl b5) ?_
  refine rz hA 3 ?_
  refine gs (gs (gr (rn hA 5 ?_)))
  refine ops_split 23 rfl (fun c3=> ?_) (fun c3=> ?_)
  ·
   have ec3:a3≠1:=neq_t hA c3
   refine rz hA 6 ?_
   refine gc (fun c4=> ?_) (fun c4=> ?_)
   ·
    refine go_exit ⟨fun _=> ?_,fun h=>absurd rfl h⟩
    refine gy hA 3 ?_
    refine⟨(S57_1 a9 v (A.num .add .i64 n 1) 0 ByteArray.empty q0 q1 q2 q3 q4 q5 q6 q7 q8),List.length xs - (i+1),?_,by cbv,i+1,(A.num .add .i64 n 1),q0,q1,q2,q3,q4,q5,q6,q7,q8,rfl,?_,rfl⟩
    ·
     omega
    have hp:kindIs 1 v (GItem.Rec (⟨a8,⟨a3,a2,a1,a0,a4,a7,a5,a6⟩⟩:GItem))=false:=by simp[kindIs,ec1,ec3,ec3.symm]
    refine⟨by rw[add_i64 hA (by omega) (by omega)];omega,by omega,?_⟩
    rw[lat_at b0]
    rw[lat_no hp]
    exact hQ
   exact no_f c4 (show true=true from by rfl)
  have ec3:a3=1:=neq_f hA c3
  refine rz hA 6 ?_
  refine gc (fun c5=> ?_) (fun c5=> ?_)
  ·
   have ec5:a2≠v:=neq_t hA c5
   refine go_exit ⟨fun _=> ?_,fun h=>absurd rfl h⟩
   refine gy hA 3 ?_
   refine⟨(S57_1 a9 v (A.num .add .i64 n 1) 0 ByteArray.empty q0 q1 q2 q3 q4 q5 q6 q7 q8),List.length xs - (i+1),?_,by cbv,i+1,(A.num .add .i64 n 1),q0,q1,q2,q3,q4,q5,q6,q7,q8,rfl,?_,rfl⟩
   ·
    omega
   have hp:kindIs 1 v (GItem.Rec (⟨a8,⟨a3,a2,a1,a0,a4,a7,a5,a6⟩⟩:GItem))=false:=by simp[kindIs,ec1,ec3,ec5,ec5.symm]
   refine⟨by rw[add_i64 hA (by omega) (by omega)];omega,by omega,?_⟩
   rw[lat_at b0]
   rw[lat_no hp]
   exact hQ
  have ec5:a2=v:=neq_f hA c5
  refine gk (gs (gr (rn hA 4 ?_)))
  refine ops_split 33 rfl (fun c6=> ?_) (fun c6=> ?_)
  ·
   have ec6:q0=0:=eql_t hA c6
   refine rz hA 24 ?_
   refine gc (fun c7=> ?_) (fun c7=> ?_)
   ·
    refine gy hA 2 ?_
    refine gy hA 3 ?_
    refine⟨(S57_1 a9 v (A.num .add .i64 n 1) 0 ByteArray.empty a8 a3 a2 a1 a0 a4 a7 a5 a6),List.length xs - (i+1),?_,by cbv,i+1,(A.num .add .i64 n 1),a8,a3,a2,a1,a0,a4,a7,a5,a6,rfl,?_,rfl⟩
    ·
     omega
    have hp:kindIs 1 v (GItem.Rec (⟨a8,⟨a3,a2,a1,a0,a4,a7,a5,a6⟩⟩:GItem))=true:=by simp[kindIs,ec1,ec3,ec5,ec6]
    have hb:∀ x,lat (kindIs 1 v) byNextB (xs.take i)=some x→1≤x.Seq:=fun x hx=>hq x (List.mem_of_mem_take (lat_mem hx).1)
    refine⟨by rw[add_i64 hA (by omega) (by omega)];omega,by omega,?_⟩
    rw[lat_at b0]
    rw[lat_new hp (tell_no hQ hb (show q0=0 by assumption))]
    rfl
   exact no_f c7 (show true=true from by rfl)
  have ec6:q0≠0:=eql_f hA c6
  refine rn hA 9 ?_
  refine ops_split 42 rfl (fun c8=> ?_) (fun c8=> ?_)
  ·
   have ec8:q4 < a0:=gtr_t hA c8
   refine rz hA 15 ?_
   refine gc (fun c9=> ?_) (fun c9=> ?_)
   ·
    refine gy hA 2 ?_
    refine gy hA 3 ?_
    refine⟨(S57_1 a9 v (A.num .add .i64 n 1) 0 ByteArray.empty a8 a3 a2 a1 a0 a4 a7 a5 a6),List.length xs - (i+1),?_,by cbv,i+1,(A.num .add .i64 n 1),a8,a3,a2,a1,a0,a4,a7,a5,a6,rfl,?_,rfl⟩
    ·
     omega
    have hp:kindIs 1 v (GItem.Rec (⟨a8,⟨a3,a2,a1,a0,a4,a7,a5,a6⟩⟩:GItem))=true:=by simp[kindIs,ec1,ec3,ec5,ec6,ec6.symm,ec8]
    have hl:byNextB (⟨q0,⟨q1,q2,q3,q4,q5,q6,q7,q8⟩⟩:GItem) (⟨a8,⟨a3,a2,a1,a0,a4,a7,a5,a6⟩⟩:GItem)=true:=by
     show(if q4=a0 then decide (q0 < a8) else decide (q4 < a0))=true
     split
     ·first | exact decide_eq_true (by omega) | (exfalso;omega)
     first | exact decide_eq_true (by omega) | (exfalso;omega)
    refine⟨by rw[add_i64 hA (by omega) (by omega)];omega,by omega,?_⟩
    rw[lat_at b0]
    rw[lat_lt hp (tell_some hQ (show q0≠0 by assumption)) hQ hl]
    rfl
   exact no_f c9 (show true=true from by rfl)
  have ec8:a0≤q4:=gtr_f hA c8
  refine rn hA 8 ?_
  refine ops_split 50 rfl (fun c10=> ?_) (fun c10=> ?_)
  ·
   have b1:a0=q4:=eql_t hA c10
   refine rz hA 7 ?_
   refine gc (fun c11=> ?_) (fun c11=> ?_)
   ·
    have b3:q0 < a8:=gtr_t hA c11
    refine gy hA 2 ?_
    refine gy hA 3 ?_
    refine⟨(S57_1 a9 v (A.num .add .i64 n 1) 0 ByteArray.empty a8 a3 a2 a1 a0 a4 a7 a5 a6),List.length xs - (i+1),?_,by cbv,i+1,(A.num .add .i64 n 1),a8,a3,a2,a1,a0,a4,a7,a5,a6,rfl,?_,rfl⟩
    ·
     omega
    have hp:kindIs 1 v (GItem.Rec (⟨a8,⟨a3,a2,a1,a0,a4,a7,a5,a6⟩⟩:GItem))=true:=by simp[kindIs,ec1,ec3,ec5,ec6,ec6.symm,ec8,Int.not_lt.2 ec8,b1,b3]
    have hl:byNextB (⟨q0,⟨q1,q2,q3,q4,q5,q6,q7,q8⟩⟩:GItem) (⟨a8,⟨a3,a2,a1,a0,a4,a7,a5,a6⟩⟩:GItem)=true:=by
     show(if q4=a0 then decide (q0 < a8) else decide (q4 < a0))=true
     split
     ·first | exact decide_eq_true (by omega) | (exfalso;omega)
     first | exact decide_eq_true (by omega) | (exfalso;omega)
    refine⟨by rw[add_i64 hA (by omega) (by omega)];omega,by omega,?_⟩
    rw[lat_at b0]
    rw[lat_lt hp (tell_some hQ (show q0≠0 by assumption)) hQ hl]
    rfl
   have b3:a8≤q0:=gtr_f hA c11
   refine gk (gy hA 3 ?_)
   refine⟨(S57_1 a9 v (A.num .add .i64 n 1) 0 ByteArray.empty q0 q1 q2 q3 q4 q5 q6 q7 q8),List.length xs - (i+1),?_,by cbv,i+1,(A.num .add .i64 n 1),q0,q1,q2,q3,q4,q5,q6,q7,q8,rfl,?_,rfl⟩
   ·
    omega
   have hp:kindIs 1 v (GItem.Rec (⟨a8,⟨a3,a2,a1,a0,a4,a7,a5,a6⟩⟩:GItem))=true:=by simp[kindIs,ec1,ec3,ec5,ec6,ec6.symm,ec8,Int.not_lt.2 ec8,b1,b3,Int.not_lt.2 b3]
   have hl:byNextB (⟨q0,⟨q1,q2,q3,q4,q5,q6,q7,q8⟩⟩:GItem) (⟨a8,⟨a3,a2,a1,a0,a4,a7,a5,a6⟩⟩:GItem)=false:=by
    show(if q4=a0 then decide (q0 < a8) else decide (q4 < a0))=false
    split
    ·first | exact decide_eq_false (by omega) | (exfalso;omega)
    first | exact decide_eq_false (by omega) | (exfalso;omega)
   refine⟨by rw[add_i64 hA (by omega) (by omega)];omega,by omega,?_⟩
   rw[lat_at b0]
   rw[lat_ge (tell_some hQ (show q0≠0 by assumption)) hQ hl]
   exact hQ
  have b1:a0≠q4:=eql_f hA c10
  refine rz hA 7 ?_
  refine gc (fun c12=> ?_) (fun c12=> ?_)
  ·
   exact no_t c12 (show false=false from by rfl)
  refine gk (gy hA 3 ?_)
  refine⟨(S57_1 a9 v (A.num .add .i64 n 1) 0 ByteArray.empty q0 q1 q2 q3 q4 q5 q6 q7 q8),List.length xs - (i+1),?_,by cbv,i+1,(A.num .add .i64 n 1),q0,q1,q2,q3,q4,q5,q6,q7,q8,rfl,?_,rfl⟩
  ·
   omega
  have hp:kindIs 1 v (GItem.Rec (⟨a8,⟨a3,a2,a1,a0,a4,a7,a5,a6⟩⟩:GItem))=true:=by simp[kindIs,ec1,ec3,ec5,ec6,ec6.symm,ec8,Int.not_lt.2 ec8,b1,b1.symm]
  have hl:byNextB (⟨q0,⟨q1,q2,q3,q4,q5,q6,q7,q8⟩⟩:GItem) (⟨a8,⟨a3,a2,a1,a0,a4,a7,a5,a6⟩⟩:GItem)=false:=by
   show(if q4=a0 then decide (q0 < a8) else decide (q4 < a0))=false
   split
   ·first | exact decide_eq_false (by omega) | (exfalso;omega)
   first | exact decide_eq_false (by omega) | (exfalso;omega)
  refine⟨by rw[add_i64 hA (by omega) (by omega)];omega,by omega,?_⟩
  rw[lat_at b0]
  rw[lat_ge (tell_some hQ (show q0≠0 by assumption)) hQ hl]
  exact hQ
 have ec1:(A.rlen a9)≤n:=lss_f hA c1
 refine go_exit ⟨fun _=> ?_,fun h=>absurd rfl h⟩
 refine gx hA 2 ?_
 refine rt (gt ?_)
 show _=(PV.agg [.ii q0,.ii q1,.ii q2,.ii q3,.ii q4,.ii q5,.str q6,.str q7,.str q8])
 rw[List.take_of_length_le (by omega)] at hQ
 rw[← hQ]
 rfl
def S56_1 (p0:RR)(p1:Int)(p2:Int)(p3:RR):St:={sl:=[.sl 1 p0,.ii p1,.bad,.bad,.bad,.own 8,.ii p2,.bad,.bad,.bad,.bad,.bad,.bad,.bad,.bad,.bad,.bad,.bad,.bad,.bad,.bad,.bad,.bad,.bad,.bad,.bad,.bad,.bad,.bad,.bad,.bad,.bad,.bad,.bad,.bad,.bad,.bad,.bad,.bad,.bad,.bad,.bad,.bad,.bad,.bad,.bad,.bad,.bad,.bad,.bad,.bad,.bad],bl:=[(8,⟨.arr,1,p3⟩)]}
def S56_2 (p0:RR)(p1:Int)(p2:Int)(p3:RR):St:={sl:=[.sl 1 p0,.ii p1,.bad,.bad,.bad,.own 8,.bad,.ii p2,.bad,.bad,.bad,.bad,.bad,.bad,.bad,.bad,.bad,.bad,.bad,.bad,.bad,.bad,.bad,.bad,.bad,.bad,.bad,.bad,.bad,.bad,.bad,.bad,.bad,.bad,.bad,.bad,.bad,.bad,.bad,.bad,.bad,.bad,.bad,.bad,.bad,.bad,.bad,.bad,.bad,.bad,.bad,.bad],bl:=[(8,⟨.arr,1,p3⟩)]}
theorem r_spec_l07Sorted (A:Alg)(hA:A=std)(xs:List Int)(z:Int)(hx:List.length xs≤1048576):Real Tryz.prog 56 [.sl 1 (List.map eInt xs),.ii z] (.ow 1 (List.map eInt (insS xs z))):=by
 obtain⟨a9,b2⟩:=nm (xs.map eInt)
 have b9:=rlen_map hA b2
 refine real_args (args':=[.sl 1 a9,.ii z]) (by subst b2;rfl) ?_
 refine real tyOk Tryz.func56 (by kernel_rfl) (afun_of rfl ?_)
 refine gx hA 1 ?_
 refine gx hA 2 ?_
 refine gs (gx hA 1 ?_)
 refine go_block ?_
 refine go_loopE (fun σ m=>∃(i:Nat) (n:Int) (R:RR),σ=(S56_1 a9 z n R)∧(n=(i:Int)∧i≤List.length xs∧R=List.map eInt (List.filter (fun y=>decide (y < z)) (xs.take i)))∧m=List.length xs - i) _ [] [0,1,5,6] [8] (S56_1 a9 z 0 ([])) rfl (by cbv) ⟨0,0,[],rfl,?_,rfl⟩ (fun σ m hI=> ?_)
 ·
  exact⟨rfl,Nat.zero_le _,rfl⟩
 obtain⟨i,n,R,rfl,⟨hn,hi,hR⟩,rfl⟩:=hI
 refine gs (gx hA 4 ?_)
 refine gc (fun c1=> ?_) (fun c1=> ?_)
 ·
  have ec1:n < (A.rlen a9):=lss_t hA c1
  refine gk (gs ?_)
  refine go_block ?_
  refine gs (gr (rn hA 2 ?_))
  have b4:(0:Int)≤n:=by
   omega
  have b6:(Int.toNat n) < List.length xs:=by
   omega
  obtain⟨x2,hx2⟩:∃ x,(xs)[(Int.toNat n)]? =some x:=⟨_,List.getElem?_eq_getElem b6⟩
  have c0:=List.mem_of_getElem? hx2
  have b5:a9[(Int.toNat n)]? =some [.ii x2]:=by
   exact map_at eInt b2 hx2
  have b0:=hx2
  rw[hn] at b0
  have b0:(xs)[i]? =some x2:=b0
  refine ops_step rfl rfl (idx_sl rfl rfl rfl rfl rfl b4 rfl b5) ?_
  refine rz hA 3 ?_
  refine gc (fun c3=> ?_) (fun c3=> ?_)
  ·
   have ec3:x2 < z:=lss_t hA c3
   refine gr (rn hA 3 ?_)
   refine ops_step rfl rfl (idx_sl rfl rfl rfl rfl rfl b4 rfl b5) ?_
   refine rn hA 2 ?_
   obtain⟨r4,hr4⟩:=nm (R++[[.ii x2]]:RR)
   have er4:r4=List.map eInt ((List.filter (fun y=>decide (y < z)) (xs.take i))++([(x2:Int)])):=by rw[hr4];exact app_eq hR (by rfl)
   have lr4:=rlen_map hA er4
   refine ops_step rfl rfl (app_own rfl rfl rfl rfl rfl rfl rfl rfl hr4 (by cbv) (by cbv) (by cbv) rfl (by
    show(List.length R+List.length ([[.ii x2]])) * _≤_
    have h1:=filter_len (fun y=>decide (y < z)) xs i
    show(List.length R+1) * 8≤_
    rw[hR,List.length_map];omega) (by decide) (by decide)) ?_
   refine rz hA 1 ?_
   refine gy hA 3 ?_
   refine⟨(S56_1 a9 z (A.num .add .i64 n 1) r4),List.length xs - (i+1),?_,by cbv,i+1,(A.num .add .i64 n 1),r4,rfl,?_,rfl⟩
   ·
    omega
   refine⟨by rw[add_i64 hA (by omega) (by omega)];omega,by omega,?_⟩
   rw[filter_at b0,if_pos (by simp[ec1,ec3])]
   exact er4
  have ec3:z≤x2:=lss_f hA c3
  refine gk (gy hA 3 ?_)
  refine⟨(S56_1 a9 z (A.num .add .i64 n 1) R),List.length xs - (i+1),?_,by cbv,i+1,(A.num .add .i64 n 1),R,rfl,?_,rfl⟩
  ·
   omega
  refine⟨by rw[add_i64 hA (by omega) (by omega)];omega,by omega,?_⟩
  rw[filter_at b0,if_neg (by simp[ec1,ec3,Int.not_lt.2 ec3])]
  exact hR
 have ec1:(A.rlen a9)≤n:=lss_f hA c1
 refine go_exit ⟨fun _=> ?_,fun h=>absurd rfl h⟩
 refine gs (gr (rn hA 3 ?_))
 obtain⟨r5,hr5⟩:=nm (R++[[.ii z]]:RR)
 have er5:r5=List.map eInt ((List.filter (fun y=>decide (y < z)) (xs.take i))++([(z:Int)])):=by rw[hr5];exact app_eq hR (by rfl)
 have lr5:=rlen_map hA er5
 refine ops_step rfl rfl (app_own rfl rfl rfl rfl rfl rfl rfl rfl hr5 (by cbv) (by cbv) (by cbv) rfl (by
  show(List.length R+List.length ([[.ii z]])) * _≤_
  have h1:=filter_len (fun y=>decide (y < z)) xs i
  show(List.length R+1) * 8≤_
  rw[hR,List.length_map];omega) (by decide) (by decide)) ?_
 refine rz hA 1 ?_
 refine gs (gx hA 1 ?_)
 refine go_block ?_
 refine go_loopE (fun σ m=>∃(k:Nat) (n2:Int) (R2:RR),σ=(S56_2 a9 z n2 R2)∧(n2=(k:Int)∧k≤List.length xs∧R2=List.map eInt (List.filter (fun y=>decide (y < z)) xs++[z]++List.filter (fun y=>decide (z < y)) (xs.take k)))∧m=List.length xs - k) _ [] [0,1,5,7] [8] (S56_2 a9 z 0 r5) rfl (by cbv) ⟨0,0,r5,rfl,?_,rfl⟩ (fun σ m hI=> ?_)
 ·
  refine⟨rfl,Nat.zero_le _,?_⟩
  rw[er5,List.take_of_length_le (by omega)]
  simp
 obtain⟨k,n2,R2,rfl,⟨hk,hkl,hR2⟩,rfl⟩:=hI
 refine gs (gx hA 4 ?_)
 refine gc (fun c6=> ?_) (fun c6=> ?_)
 ·
  have ec6:n2 < (A.rlen a9):=lss_t hA c6
  refine gk (gs ?_)
  refine go_block ?_
  refine gs (gr (rn hA 2 ?_))
  have d1:(0:Int)≤n2:=by
   omega
  have d2:(Int.toNat n2) < List.length xs:=by
   omega
  obtain⟨x7,hx7⟩:∃ x,(xs)[(Int.toNat n2)]? =some x:=⟨_,List.getElem?_eq_getElem d2⟩
  have d3:=List.mem_of_getElem? hx7
  have d0:a9[(Int.toNat n2)]? =some [.ii x7]:=by
   exact map_at eInt b2 hx7
  have b7:=hx7
  rw[hk] at b7
  have b7:(xs)[k]? =some x7:=b7
  refine ops_step rfl rfl (idx_sl rfl rfl rfl rfl rfl d1 rfl d0) ?_
  refine rz hA 3 ?_
  refine gc (fun c8=> ?_) (fun c8=> ?_)
  ·
   have ec8:z < x7:=gtr_t hA c8
   refine gr (rn hA 3 ?_)
   refine ops_step rfl rfl (idx_sl rfl rfl rfl rfl rfl d1 rfl d0) ?_
   refine rn hA 2 ?_
   obtain⟨r9,hr9⟩:=nm (R2++[[.ii x7]]:RR)
   have er9:r9=List.map eInt ((List.filter (fun y=>decide (y < z)) xs++[z]++List.filter (fun y=>decide (z < y)) (xs.take k))++([(x7:Int)])):=by rw[hr9];exact app_eq hR2 (by rfl)
   have lr9:=rlen_map hA er9
   refine ops_step rfl rfl (app_own rfl rfl rfl rfl rfl rfl rfl rfl hr9 (by cbv) (by cbv) (by cbv) rfl (by
    show(List.length R2+List.length ([[.ii x7]])) * _≤_
    have h1:=List.length_filter_le (fun y:Int=>decide (y < z)) xs
    have h2:=filter_len (fun y=>decide (z < y)) xs k
    show(List.length R2+1) * 8≤_
    rw[hR2,List.length_map,List.length_append,List.length_append];simp only[List.length_cons,List.length_nil];omega) (by decide) (by decide)) ?_
   refine rz hA 1 ?_
   refine gy hA 3 ?_
   refine⟨(S56_2 a9 z (A.num .add .i64 n2 1) r9),List.length xs - (k+1),?_,by cbv,k+1,(A.num .add .i64 n2 1),r9,rfl,?_,rfl⟩
   ·
    omega
   refine⟨by rw[add_i64 hA (by omega) (by omega)];omega,by omega,?_⟩
   rw[filter_at b7,if_pos (by simp[ec1,Int.not_lt.2 ec1,ec6,ec8])]
   rw[← List.append_assoc]
   exact er9
  have ec8:x7≤z:=gtr_f hA c8
  refine gk (gy hA 3 ?_)
  refine⟨(S56_2 a9 z (A.num .add .i64 n2 1) R2),List.length xs - (k+1),?_,by cbv,k+1,(A.num .add .i64 n2 1),R2,rfl,?_,rfl⟩
  ·
   omega
  refine⟨by rw[add_i64 hA (by omega) (by omega)];omega,by omega,?_⟩
  rw[filter_at b7,if_neg (by simp[ec1,Int.not_lt.2 ec1,ec6,ec8,Int.not_lt.2 ec8])]
  exact hR2
 have ec6:(A.rlen a9)≤n2:=lss_f hA c6
 refine go_exit ⟨fun _=> ?_,fun h=>absurd rfl h⟩
 refine gx hA 2 ?_
 refine rt (gt ?_)
 refine congrArg (PV.ow 1) ?_
 rw[hR2,List.take_of_length_le (by omega)]
 rfl
def S58_1 (p0:RR)(p1:Int)(p2:Int)(p3:Int):St:={sl:=[.sl 9 p0,.ii p1,.bad,.bad,.bad,.ii p2,.ii p3,.bad,.bad,.bad,.bad,.bad,.bad,.bad,.bad,.bad,.bad,.bad,.bad,.bad,.bad,.bad,.bad,.bad,.bad,.bad,.bad,.bad,.bad,.bad,.bad,.bad,.bad,.bad,.bad,.bad,.bad,.bad,.bad,.bad,.bad],bl:=[]}
theorem r_spec_l07Next (A:Alg)(hA:A=std)(xs:List GItem)(v:Int)(hx:(List.length xs:Int)≤4611686018427387904)(hok:itemsOk xs=true):Real Tryz.prog 58 [.sl 9 (List.map eItem xs),.ii v] (.ii (nextR v xs)):=by
 obtain⟨a9,b2⟩:=nm (xs.map eItem)
 have b9:=rlen_map hA b2
 refine real_args (args':=[.sl 9 a9,.ii v]) (by subst b2;rfl) ?_
 refine real tyOk Tryz.func58 (by kernel_rfl) (afun_of rfl ?_)
 refine gx hA 1 ?_
 refine gx hA 1 ?_
 refine gs (gx hA 1 ?_)
 refine go_block ?_
 refine go_loopE (fun σ m=>∃(i:Nat) (n:Int) (mx:Int),σ=(S58_1 a9 v mx n)∧(n=(i:Int)∧i≤List.length xs∧mx=nextR v (xs.take i)∧1≤mx)∧m=List.length xs - i) _ [] [0,1,5,6] [] (S58_1 a9 v 1 0) rfl (by cbv) ⟨0,0,1,rfl,?_,rfl⟩ (fun σ m hI=> ?_)
 ·
  exact⟨rfl,Nat.zero_le _,rfl,by decide⟩
 obtain⟨i,n,mx,rfl,⟨hn,hi,hM,hm1⟩,rfl⟩:=hI
 refine gs (gx hA 4 ?_)
 refine gc (fun c1=> ?_) (fun c1=> ?_)
 ·
  have ec1:n < (A.rlen a9):=lss_t hA c1
  refine gk (gs ?_)
  refine go_block ?_
  refine gs (gr (rn hA 2 ?_))
  have b4:(0:Int)≤n:=by
   omega
  have b6:(Int.toNat n) < List.length xs:=by
   omega
  obtain⟨x2,hx2⟩:∃ x,(xs)[(Int.toNat n)]? =some x:=⟨_,List.getElem?_eq_getElem b6⟩
  have c0:=List.mem_of_getElem? hx2
  obtain⟨a8,⟨a3,a2,a1,a0,a4,a7,a5,a6⟩⟩:=x2
  have b5:a9[(Int.toNat n)]? =some [.ii a8,.ii a3,.ii a2,.ii a1,.ii a0,.ii a4,.str a7,.str a5,.str a6]:=by
   exact map_at eItem b2 hx2
  have b0:=hx2
  rw[hn] at b0
  have b0:(xs)[i]? =some (⟨a8,⟨a3,a2,a1,a0,a4,a7,a5,a6⟩⟩:GItem):=b0
  have c2:=rec_uid (items_rec hok c0)
  have c2:0≤a1∧a1≤9999:=c2
  have wadd:A.num .add .i64 a1 1=a1+1:=add_i64 hA (by omega) (by omega)
  refine ops_step rfl rfl (idx_sl rfl rfl rfl rfl rfl b4 rfl b5) ?_
  refine rz hA 4 ?_
  refine gs (gx hA 4 ?_)
  refine gc (fun c3=> ?_) (fun c3=> ?_)
  ·
   have ec3:a2≠v:=neq_t hA c3
   refine go_exit ⟨fun _=> ?_,fun h=>absurd rfl h⟩
   refine gy hA 3 ?_
   refine⟨(S58_1 a9 v mx (A.num .add .i64 n 1)),List.length xs - (i+1),?_,by cbv,i+1,(A.num .add .i64 n 1),mx,rfl,?_,rfl⟩
   ·
    omega
   have hK:nextK v (GItem.Rec (⟨a8,⟨a3,a2,a1,a0,a4,a7,a5,a6⟩⟩:GItem))=0:=by simp[nextK,uidP,kindIs,ec1,ec3,ec3.symm]
   have hM2:max (nextR v (xs.take i)) (nextK v (GItem.Rec (⟨a8,⟨a3,a2,a1,a0,a4,a7,a5,a6⟩⟩:GItem)))=mx:=by rw[hK,← hM];omega
   refine⟨by rw[add_i64 hA (by omega) (by omega)];omega,by omega,by rw[nextR_at b0,hM2],by omega⟩
  have ec3:a2=v:=neq_f hA c3
  refine gk (gx hA 1 ?_)
  refine gs (gx hA 2 ?_)
  refine go_block ?_
  refine gx hA 2 ?_
  refine gc (fun c4=> ?_) (fun c4=> ?_)
  ·
   have ec4:a3=1:=eql_t hA c4
   refine gy hA 3 ?_
   refine gx hA 3 ?_
   refine gc (fun c5=> ?_) (fun c5=> ?_)
   ·
    have ec5:mx < a0:=gtr_t hA c5
    refine gy hA 2 ?_
    refine gy hA 3 ?_
    refine⟨(S58_1 a9 v a0 (A.num .add .i64 n 1)),List.length xs - (i+1),?_,by cbv,i+1,(A.num .add .i64 n 1),a0,rfl,?_,rfl⟩
    ·
     omega
    have hK:nextK v (GItem.Rec (⟨a8,⟨a3,a2,a1,a0,a4,a7,a5,a6⟩⟩:GItem))=a0:=by simp[nextK,uidP,kindIs,ec1,ec3,ec4,ec5]
    have hM2:max (nextR v (xs.take i)) (nextK v (GItem.Rec (⟨a8,⟨a3,a2,a1,a0,a4,a7,a5,a6⟩⟩:GItem)))=a0:=by rw[hK,← hM];omega
    refine⟨by rw[add_i64 hA (by omega) (by omega)];omega,by omega,by rw[nextR_at b0,hM2],by omega⟩
   have ec5:a0≤mx:=gtr_f hA c5
   refine gk (gy hA 3 ?_)
   refine⟨(S58_1 a9 v mx (A.num .add .i64 n 1)),List.length xs - (i+1),?_,by cbv,i+1,(A.num .add .i64 n 1),mx,rfl,?_,rfl⟩
   ·
    omega
   have hK:nextK v (GItem.Rec (⟨a8,⟨a3,a2,a1,a0,a4,a7,a5,a6⟩⟩:GItem))=a0:=by simp[nextK,uidP,kindIs,ec1,ec3,ec4,ec5,Int.not_lt.2 ec5]
   have hM2:max (nextR v (xs.take i)) (nextK v (GItem.Rec (⟨a8,⟨a3,a2,a1,a0,a4,a7,a5,a6⟩⟩:GItem)))=mx:=by rw[hK,← hM];omega
   refine⟨by rw[add_i64 hA (by omega) (by omega)];omega,by omega,by rw[nextR_at b0,hM2],by omega⟩
  have ec4:a3≠1:=eql_f hA c4
  refine gs (gx hA 2 ?_)
  refine gc (fun c6=> ?_) (fun c6=> ?_)
  ·
   have ec6:a3=3:=eql_t hA c6
   refine gk ?_
   refine gc (fun c7=> ?_) (fun c7=> ?_)
   ·
    have ec7:a3=3:=eql_t hA c7
    refine gy hA 4 ?_
    refine gx hA 3 ?_
    refine gc (fun c8=> ?_) (fun c8=> ?_)
    ·
     have ec8:mx < (A.num .add .i64 a1 1):=gtr_t hA c8
     refine gy hA 2 ?_
     refine gy hA 3 ?_
     refine⟨(S58_1 a9 v (A.num .add .i64 a1 1) (A.num .add .i64 n 1)),List.length xs - (i+1),?_,by cbv,i+1,(A.num .add .i64 n 1),(A.num .add .i64 a1 1),rfl,?_,rfl⟩
     ·
      omega
     have hK:nextK v (GItem.Rec (⟨a8,⟨a3,a2,a1,a0,a4,a7,a5,a6⟩⟩:GItem))=a1+1:=by simp[nextK,uidP,kindIs,ec1,ec3,ec4,ec4.symm,ec6,ec7,ec8]
     have hM2:max (nextR v (xs.take i)) (nextK v (GItem.Rec (⟨a8,⟨a3,a2,a1,a0,a4,a7,a5,a6⟩⟩:GItem)))=(A.num .add .i64 a1 1):=by rw[hK,← hM];omega
     refine⟨by rw[add_i64 hA (by omega) (by omega)];omega,by omega,by rw[nextR_at b0,hM2],by omega⟩
    have ec8:(A.num .add .i64 a1 1)≤mx:=gtr_f hA c8
    refine gk (gy hA 3 ?_)
    refine⟨(S58_1 a9 v mx (A.num .add .i64 n 1)),List.length xs - (i+1),?_,by cbv,i+1,(A.num .add .i64 n 1),mx,rfl,?_,rfl⟩
    ·
     omega
    have hK:nextK v (GItem.Rec (⟨a8,⟨a3,a2,a1,a0,a4,a7,a5,a6⟩⟩:GItem))=a1+1:=by simp[nextK,uidP,kindIs,ec1,ec3,ec4,ec4.symm,ec6,ec7,ec8,Int.not_lt.2 ec8]
    have hM2:max (nextR v (xs.take i)) (nextK v (GItem.Rec (⟨a8,⟨a3,a2,a1,a0,a4,a7,a5,a6⟩⟩:GItem)))=mx:=by rw[hK,← hM];omega
    refine⟨by rw[add_i64 hA (by omega) (by omega)];omega,by omega,by rw[nextR_at b0,hM2],by omega⟩
   have ec7:a3≠3:=eql_f hA c7
   refine gk (gx hA 3 ?_)
   refine gc (fun c9=> ?_) (fun c9=> ?_)
   ·
    have ec9:mx < 0:=gtr_t hA c9
    refine gy hA 2 ?_
    refine gy hA 3 ?_
    refine⟨(S58_1 a9 v 0 (A.num .add .i64 n 1)),List.length xs - (i+1),?_,by cbv,i+1,(A.num .add .i64 n 1),0,rfl,?_,rfl⟩
    ·
     omega
    have hK:nextK v (GItem.Rec (⟨a8,⟨a3,a2,a1,a0,a4,a7,a5,a6⟩⟩:GItem))=a1+1:=by simp[nextK,uidP,kindIs,ec1,ec3,ec4,ec4.symm,ec6,ec7,ec7.symm,ec9]
    have hM2:max (nextR v (xs.take i)) (nextK v (GItem.Rec (⟨a8,⟨a3,a2,a1,a0,a4,a7,a5,a6⟩⟩:GItem)))=0:=by rw[hK,← hM];omega
    refine⟨by rw[add_i64 hA (by omega) (by omega)];omega,by omega,by rw[nextR_at b0,hM2],by omega⟩
   have ec9:0≤mx:=gtr_f hA c9
   refine gk (gy hA 3 ?_)
   refine⟨(S58_1 a9 v mx (A.num .add .i64 n 1)),List.length xs - (i+1),?_,by cbv,i+1,(A.num .add .i64 n 1),mx,rfl,?_,rfl⟩
   ·
    omega
   have hK:nextK v (GItem.Rec (⟨a8,⟨a3,a2,a1,a0,a4,a7,a5,a6⟩⟩:GItem))=a1+1:=by simp[nextK,uidP,kindIs,ec1,ec3,ec4,ec4.symm,ec6,ec7,ec7.symm,ec9,Int.not_lt.2 ec9]
   have hM2:max (nextR v (xs.take i)) (nextK v (GItem.Rec (⟨a8,⟨a3,a2,a1,a0,a4,a7,a5,a6⟩⟩:GItem)))=mx:=by rw[hK,← hM];omega
   refine⟨by rw[add_i64 hA (by omega) (by omega)];omega,by omega,by rw[nextR_at b0,hM2],by omega⟩
  have ec6:a3≠3:=eql_f hA c6
  refine gy hA 2 ?_
  refine gc (fun c10=> ?_) (fun c10=> ?_)
  ·
   have b1:a3=5:=eql_t hA c10
   refine gy hA 4 ?_
   refine gx hA 3 ?_
   refine gc (fun c11=> ?_) (fun c11=> ?_)
   ·
    have b3:mx < (A.num .add .i64 a1 1):=gtr_t hA c11
    refine gy hA 2 ?_
    refine gy hA 3 ?_
    refine⟨(S58_1 a9 v (A.num .add .i64 a1 1) (A.num .add .i64 n 1)),List.length xs - (i+1),?_,by cbv,i+1,(A.num .add .i64 n 1),(A.num .add .i64 a1 1),rfl,?_,rfl⟩
    ·
     omega
    have hK:nextK v (GItem.Rec (⟨a8,⟨a3,a2,a1,a0,a4,a7,a5,a6⟩⟩:GItem))=a1+1:=by simp[nextK,uidP,kindIs,ec1,ec3,ec4,ec4.symm,ec6,ec6.symm,b1,b3]
    have hM2:max (nextR v (xs.take i)) (nextK v (GItem.Rec (⟨a8,⟨a3,a2,a1,a0,a4,a7,a5,a6⟩⟩:GItem)))=(A.num .add .i64 a1 1):=by rw[hK,← hM];omega
    refine⟨by rw[add_i64 hA (by omega) (by omega)];omega,by omega,by rw[nextR_at b0,hM2],by omega⟩
   have b3:(A.num .add .i64 a1 1)≤mx:=gtr_f hA c11
   refine gk (gy hA 3 ?_)
   refine⟨(S58_1 a9 v mx (A.num .add .i64 n 1)),List.length xs - (i+1),?_,by cbv,i+1,(A.num .add .i64 n 1),mx,rfl,?_,rfl⟩
   ·
    omega
   have hK:nextK v (GItem.Rec (⟨a8,⟨a3,a2,a1,a0,a4,a7,a5,a6⟩⟩:GItem))=a1+1:=by simp[nextK,uidP,kindIs,ec1,ec3,ec4,ec4.symm,ec6,ec6.symm,b1,b3,Int.not_lt.2 b3]
   have hM2:max (nextR v (xs.take i)) (nextK v (GItem.Rec (⟨a8,⟨a3,a2,a1,a0,a4,a7,a5,a6⟩⟩:GItem)))=mx:=by rw[hK,← hM];omega
   refine⟨by rw[add_i64 hA (by omega) (by omega)];omega,by omega,by rw[nextR_at b0,hM2],by omega⟩
  have b1:a3≠5:=eql_f hA c10
  refine gk (gx hA 3 ?_)
  refine gc (fun c12=> ?_) (fun c12=> ?_)
  ·
   have b8:mx < 0:=gtr_t hA c12
   refine gy hA 2 ?_
   refine gy hA 3 ?_
   refine⟨(S58_1 a9 v 0 (A.num .add .i64 n 1)),List.length xs - (i+1),?_,by cbv,i+1,(A.num .add .i64 n 1),0,rfl,?_,rfl⟩
   ·
    omega
   have hK:nextK v (GItem.Rec (⟨a8,⟨a3,a2,a1,a0,a4,a7,a5,a6⟩⟩:GItem))=0:=by simp[nextK,uidP,kindIs,ec1,ec3,ec4,ec4.symm,ec6,ec6.symm,b1,b1.symm,b8]
   have hM2:max (nextR v (xs.take i)) (nextK v (GItem.Rec (⟨a8,⟨a3,a2,a1,a0,a4,a7,a5,a6⟩⟩:GItem)))=0:=by rw[hK,← hM];omega
   refine⟨by rw[add_i64 hA (by omega) (by omega)];omega,by omega,by rw[nextR_at b0,hM2],by omega⟩
  have b8:0≤mx:=gtr_f hA c12
  refine gk (gy hA 3 ?_)
  refine⟨(S58_1 a9 v mx (A.num .add .i64 n 1)),List.length xs - (i+1),?_,by cbv,i+1,(A.num .add .i64 n 1),mx,rfl,?_,rfl⟩
  ·
   omega
  have hK:nextK v (GItem.Rec (⟨a8,⟨a3,a2,a1,a0,a4,a7,a5,a6⟩⟩:GItem))=0:=by simp[nextK,uidP,kindIs,ec1,ec3,ec4,ec4.symm,ec6,ec6.symm,b1,b1.symm,b8,Int.not_lt.2 b8]
  have hM2:max (nextR v (xs.take i)) (nextK v (GItem.Rec (⟨a8,⟨a3,a2,a1,a0,a4,a7,a5,a6⟩⟩:GItem)))=mx:=by rw[hK,← hM];omega
  refine⟨by rw[add_i64 hA (by omega) (by omega)];omega,by omega,by rw[nextR_at b0,hM2],by omega⟩
 have ec1:(A.rlen a9)≤n:=lss_f hA c1
 refine go_exit ⟨fun _=> ?_,fun h=>absurd rfl h⟩
 refine gx hA 2 ?_
 refine rt (gt ?_)
 refine congrArg (PV.int .i64) ?_
 rw[hM,List.take_of_length_le (by omega)]
end Go.Av
