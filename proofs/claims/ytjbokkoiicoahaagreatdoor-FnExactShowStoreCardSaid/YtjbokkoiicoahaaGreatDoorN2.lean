/- Walks: the reference on which items are needed. -/
import Derived.Test.YtjbokkoiicoahaaGreatDoorN1
import Derived.Test.YtjbokkoiicoahaaGreatDoorNd
namespace Go.Av
open Go Go.Proofs
set_option maxRecDepth 100000
set_option maxHeartbeats 4000000
set_option linter.unusedVariables false
set_option linter.unusedSimpArgs false
theorem r_spec_l08Has (A:Alg)(hA:A=std)(xs:List GItem)(k:Int)(v:Int)(u:Int)(hx:(List.length xs:Int)≤4611686018427387904):Real Tryz.prog 119 [.sl 9 (List.map eItem xs),.ii k,.ii v,.ii u] (.bool (Option.isSome (lat (mailIs k v u) bySeqB xs))):=by
 obtain⟨b2,d4⟩:=nm (xs.map eItem)
 have o4:=rlen_map hA d4
 refine real_args (args':=[.sl 9 b2,.ii k,.ii v,.ii u]) (by subst d4;rfl) ?_
 refine real tyOk Tryz.func119 (by kernel_rfl) (afun_of rfl ?_)
 refine gx hA 1 ?_
 refine gs (gr (rn hA 4 ?_))
 obtain⟨j6,i9,g6,j0,i7,g3,i4,i8,i6,m4,u3,t0,s5,t7,s9,s3,s8,t1,t2,t8,hc2⟩:∃(j6:Int) (i9:Int) (g6:Int) (j0:Int) (i7:Int) (g3:Int) (i4:ByteArray) (i8:ByteArray) (i6:ByteArray) (m4:Bool),j6=((Option.getD (lat (mailIs k v u) bySeqB xs) zItem).Seq)∧i9=(((Option.getD (lat (mailIs k v u) bySeqB xs) zItem).Rec).Kind)∧g6=(((Option.getD (lat (mailIs k v u) bySeqB xs) zItem).Rec).Valid)∧j0=(((Option.getD (lat (mailIs k v u) bySeqB xs) zItem).Rec).Uid)∧i7=(((Option.getD (lat (mailIs k v u) bySeqB xs) zItem).Rec).Next)∧g3=(((Option.getD (lat (mailIs k v u) bySeqB xs) zItem).Rec).Flags)∧i4=(((Option.getD (lat (mailIs k v u) bySeqB xs) zItem).Rec).User)∧i8=(((Option.getD (lat (mailIs k v u) bySeqB xs) zItem).Rec).Name)∧i6=(((Option.getD (lat (mailIs k v u) bySeqB xs) zItem).Rec).Text)∧m4=(Option.isSome (lat (mailIs k v u) bySeqB xs))∧Real Tryz.prog 55 [.sl 9 b2,.ii k,.ii v,.ii u] (.tup [.agg [.ii j6,.ii i9,.ii g6,.ii j0,.ii i7,.ii g3,.str i4,.str i8,.str i6],.bool m4]):=⟨_,_,_,_,_,_,_,_,_,_,rfl,rfl,rfl,rfl,rfl,rfl,rfl,rfl,rfl,rfl,by subst d4;exact r_spec_l07Best A hA xs k v u (by omega)⟩
 refine cvw hc2 (.inr rfl) ?_
 refine rz hA 6 ?_
 refine gx hA 2 ?_
 refine rt (gt ?_)
 show _=(PV.bool m4)
 exact congrArg PV.bool t8.symm
theorem r_spec_l08There (A:Alg)(hA:A=std)(xs:List GItem)(v:Int)(hx:(List.length xs:Int)≤4611686018427387904):Real Tryz.prog 118 [.sl 9 (List.map eItem xs),.ii v] (.bool (thereR v xs)):=by
 obtain⟨b2,d4⟩:=nm (xs.map eItem)
 have o4:=rlen_map hA d4
 refine real_args (args':=[.sl 9 b2,.ii v]) (by subst d4;rfl) ?_
 refine real tyOk Tryz.func118 (by kernel_rfl) (afun_of rfl ?_)
 refine gx hA 1 ?_
 refine gs (gr (rn hA 2 ?_))
 obtain⟨t5,u0,hc2⟩:∃(t5:Bool),t5=(Option.isSome (lat (mailIs 1 v 0) bySeqB xs))∧Real Tryz.prog 119 [.sl 9 b2,.ii 1,.ii v,.ii 0] (.bool t5):=⟨_,rfl,by subst d4;exact r_spec_l08Has A hA xs 1 v 0 (by omega)⟩
 refine cvw hc2 (.inr rfl) ?_
 refine rn hA 1 ?_
 refine ops_split 8 rfl (fun c3=> ?_) (fun c3=> ?_)
 ·
  refine rn hA 2 ?_
  obtain⟨o6,u5,hc5⟩:∃(o6:Bool),o6=(Option.isSome (lat (mailIs 2 v 0) bySeqB xs))∧Real Tryz.prog 119 [.sl 9 b2,.ii 2,.ii v,.ii 0] (.bool o6):=⟨_,rfl,by subst d4;exact r_spec_l08Has A hA xs 2 v 0 (by omega)⟩
  refine ops_callG rfl rfl rfl rfl (by cbv) (by cbv) hc5 (.inr rfl) (by cbv) ?_
  refine rz hA 3 ?_
  refine rt (gt ?_)
  show _=(PV.bool (A.bnot o6))
  refine congrArg PV.bool ?_
  try simp only[slen_eq hA,o4] at *
  subst u5 u0
  subst hA
  simp[thereR,std,c3]
 refine rz hA 6 ?_
 refine rt (gt ?_)
 refine congrArg PV.bool ?_
 try simp only[slen_eq hA,o4] at *
 subst u0
 subst hA
 simp[thereR,std,c3]
theorem r_spec_l08Bigger (A:Alg)(hA:A=std)(a:GItem)(b:GItem):Real Tryz.prog 117 [.agg (eItem a),.agg (eItem b)] (.bool (byNextB b a)):=by
 obtain⟨n5,⟨r3,q2,s6,d6,q4,r9,q6,r7⟩⟩:=a
 obtain⟨n4,⟨q9,q3,s4,d5,q1,s0,q7,r0⟩⟩:=b
 refine real_args (args':=[.agg [.ii n5,.ii r3,.ii q2,.ii s6,.ii d6,.ii q4,.str r9,.str q6,.str r7],.agg [.ii n4,.ii q9,.ii q3,.ii s4,.ii d5,.ii q1,.str s0,.str q7,.str r0]]) (by rfl) ?_
 refine real tyOk Tryz.func117 (by kernel_rfl) (afun_of rfl ?_)
 refine gx hA 3 ?_
 refine gs (gr (rn hA 8 ?_))
 refine ops_split 12 rfl (fun c1=> ?_) (fun c1=> ?_)
 ·
  have ec1:d5 < d6:=gtr_t hA c1
  refine rz hA 16 ?_
  refine rt (gt ?_)
  refine congrArg PV.bool ?_
  show(if d5=d6 then decide (n4 < n5) else decide (d5 < d6))=_
  rw[if_neg (by omega)]
  exact decide_eq_true (by omega)
 have ec1:d6≤d5:=gtr_f hA c1
 refine rn hA 8 ?_
 refine ops_split 20 rfl (fun c2=> ?_) (fun c2=> ?_)
 ·
  have ec2:d6=d5:=eql_t hA c2
  refine rz hA 8 ?_
  refine rt (gt ?_)
  show _=(PV.bool (A.cmp .gtr n5 n4))
  refine congrArg PV.bool ?_
  show(if d5=d6 then decide (n4 < n5) else decide (d5 < d6))=_
  rw[if_pos (by omega)]
  subst hA
  rfl
 have ec2:d6≠d5:=eql_f hA c2
 refine rz hA 8 ?_
 refine rt (gt ?_)
 refine congrArg PV.bool ?_
 show(if d5=d6 then decide (n4 < n5) else decide (d5 < d6))=_
 rw[if_neg (by omega)]
 exact decide_eq_false (by omega)
def S82_1 (p0:RR)(p1:Int)(p2:Int)(p3:Int)(p4:Int)(p5:Int)(p6:Int)(p7:Int)(p8:ByteArray)(p9:ByteArray)(p10:ByteArray)(p11:Int):St:={sl:=[.sl 9 p0,.ii p1,.bad,.bad,.bad,.pt 5 0 0,.pt 6 0 0,.ii p2,.bad,.bad,.bad,.bad,.bad,.bad,.bad,.bad,.bad,.bad,.bad,.bad,.bad,.bad,.bad,.bad,.bad,.bad,.bad,.bad,.bad,.bad,.bad,.bad,.bad,.bad,.bad,.bad,.bad,.bad,.bad,.bad,.bad,.bad,.bad,.bad,.bad,.bad,.bad,.bad,.bad,.bad,.bad,.bad,.bad,.bad,.bad,.bad,.bad,.bad,.bad,.bad,.bad,.bad,.bad,.bad,.bad,.bad,.bad,.bad,.bad,.bad,.bad,.bad,.bad,.bad,.bad,.bad,.bad,.bad,.bad,.bad,.bad,.bad,.bad,.bad,.bad,.bad,.bad,.bad,.bad,.bad,.bad,.bad,.bad,.bad,.bad,.bad,.bad,.bad,.bad,.bad,.bad,.bad,.bad,.bad,.bad,.bad,.bad,.bad,.bad,.bad,.bad,.bad,.bad,.bad,.bad,.bad,.bad,.bad,.bad,.bad,.bad,.bad,.bad,.bad,.bad,.bad,.bad,.bad,.bad,.bad,.bad,.bad,.bad,.bad,.bad,.bad,.bad,.bad,.bad,.bad,.bad,.bad,.bad,.bad,.bad,.bad,.bad,.bad,.bad,.bad,.bad,.bad,.bad,.bad,.bad,.bad,.bad,.bad,.bad,.bad,.bad,.bad,.bad,.bad,.bad,.bad,.bad,.bad,.bad,.bad,.bad,.bad,.bad,.bad,.bad,.bad,.bad,.bad,.bad,.bad,.bad,.bad],bl:=[(6,⟨.var,8,[[.ii p3,.ii p4,.ii p5,.ii p6,.ii p7,.str p8,.str p9,.str p10]]⟩),(5,⟨.var,9,[[.ii p11,.ii p3,.ii p4,.ii p5,.ii p6,.ii p7,.str p8,.str p9,.str p10]]⟩)]}
def S82_2 (p0:RR)(p1:Int)(p2:Int)(p3:Int)(p4:Int)(p5:Int)(p6:Int)(p7:ByteArray)(p8:ByteArray)(p9:ByteArray)(p10:Int):St:={sl:=[.sl 9 p0,.bad,.bad,.bad,.bad,.pt 5 0 0,.pt 6 0 0,.bad,.ii p1,.bad,.bad,.bad,.bad,.bad,.bad,.bad,.bad,.bad,.bad,.bad,.bad,.bad,.bad,.bad,.bad,.bad,.bad,.bad,.bad,.bad,.bad,.bad,.bad,.bad,.bad,.bad,.bad,.bad,.bad,.bad,.bad,.bad,.bad,.bad,.bad,.bad,.bad,.bad,.bad,.bad,.bad,.bad,.bad,.bad,.bad,.bad,.bad,.bad,.bad,.bad,.bad,.bad,.bad,.bad,.bad,.bad,.bad,.bad,.bad,.bad,.bad,.bad,.bad,.bad,.bad,.bad,.bad,.bad,.bad,.bad,.bad,.bad,.bad,.bad,.bad,.bad,.bad,.bad,.bad,.bad,.bad,.bad,.bad,.bad,.bad,.bad,.bad,.bad,.bad,.bad,.bad,.bad,.bad,.bad,.bad,.bad,.bad,.bad,.bad,.bad,.bad,.bad,.bad,.bad,.bad,.bad,.bad,.bad,.bad,.bad,.bad,.bad,.bad,.bad,.bad,.bad,.bad,.bad,.bad,.bad,.bad,.bad,.bad,.bad,.bad,.bad,.bad,.bad,.bad,.bad,.bad,.bad,.bad,.bad,.bad,.bad,.bad,.bad,.bad,.bad,.bad,.bad,.bad,.bad,.bad,.bad,.bad,.bad,.bad,.bad,.bad,.bad,.bad,.bad,.bad,.bad,.bad,.bad,.bad,.bad,.bad,.bad,.bad,.bad,.bad,.bad,.bad,.bad,.bad,.bad,.bad,.bad],bl:=[(6,⟨.var,8,[[.ii p2,.ii p3,.ii p4,.ii p5,.ii p6,.str p7,.str p8,.str p9]]⟩),(5,⟨.var,9,[[.ii p10,.ii p2,.ii p3,.ii p4,.ii p5,.ii p6,.str p7,.str p8,.str p9]]⟩)]}
def S82_3 (p0:RR)(p1:Int)(p2:Int)(p3:Int)(p4:Int)(p5:Int)(p6:Int)(p7:Int)(p8:ByteArray)(p9:ByteArray)(p10:ByteArray)(p11:Int)(p12:Int)(p13:Int)(p14:Int)(p15:Int)(p16:ByteArray)(p17:ByteArray)(p18:ByteArray)(p19:Int):St:={sl:=[.sl 9 p0,.bad,.bad,.bad,.bad,.pt 5 0 0,.pt 6 0 0,.bad,.bad,.pt 9 0 0,.bad,.ii p1,.bad,.bad,.bad,.bad,.bad,.bad,.bad,.bad,.bad,.bad,.bad,.bad,.bad,.bad,.bad,.bad,.bad,.bad,.bad,.bad,.bad,.bad,.bad,.bad,.bad,.bad,.bad,.bad,.bad,.bad,.bad,.bad,.bad,.bad,.bad,.bad,.bad,.bad,.bad,.bad,.bad,.bad,.bad,.bad,.bad,.bad,.bad,.bad,.bad,.bad,.bad,.bad,.bad,.bad,.bad,.bad,.bad,.bad,.bad,.bad,.bad,.bad,.bad,.bad,.bad,.bad,.bad,.bad,.bad,.bad,.bad,.bad,.bad,.bad,.bad,.bad,.bad,.bad,.bad,.bad,.bad,.bad,.bad,.bad,.bad,.bad,.bad,.bad,.bad,.bad,.bad,.bad,.bad,.bad,.bad,.bad,.bad,.bad,.bad,.bad,.bad,.bad,.bad,.bad,.bad,.bad,.bad,.bad,.bad,.bad,.bad,.bad,.bad,.bad,.bad,.bad,.bad,.bad,.bad,.bad,.bad,.bad,.bad,.bad,.bad,.bad,.bad,.bad,.bad,.bad,.bad,.bad,.bad,.bad,.bad,.bad,.bad,.bad,.bad,.bad,.bad,.bad,.bad,.bad,.bad,.bad,.bad,.bad,.bad,.bad,.bad,.bad,.bad,.bad,.bad,.bad,.bad,.bad,.bad,.bad,.bad,.bad,.bad,.bad,.bad,.bad,.bad,.bad,.bad,.bad],bl:=[(9,⟨.var,9,[[.ii p2,.ii p3,.ii p4,.ii p5,.ii p6,.ii p7,.str p8,.str p9,.str p10]]⟩),(6,⟨.var,8,[[.ii p11,.ii p12,.ii p13,.ii p14,.ii p15,.str p16,.str p17,.str p18]]⟩),(5,⟨.var,9,[[.ii p19,.ii p11,.ii p12,.ii p13,.ii p14,.ii p15,.str p16,.str p17,.str p18]]⟩)]}
theorem r_spec_l08Need (A:Alg)(hA:A=std)(xs:List GItem)(k:Int)(hx:(List.length xs:Int)≤4611686018427387904)(hk0:0≤k)(hk1:k < (List.length xs:Int)):Real Tryz.prog 82 [.sl 9 (List.map eItem xs),.ii k] (.bool (needAtZ xs (Int.toNat k))):=by
 obtain⟨b2,d4⟩:=nm (xs.map eItem)
 have o4:=rlen_map hA d4
 refine real_args (args':=[.sl 9 b2,.ii k]) (by subst d4;rfl) ?_
 have hlt:List.length (xs.take (Int.toNat k))=Int.toNat k:=by rw[List.length_take];omega
 refine real tyOk Tryz.func82 (by kernel_rfl) (afun_of rfl ?_)
 refine gx hA 1 ?_
 refine gs (gr (rn hA 2 ?_))
 have v4:(0:Int)≤k:=by
  omega
 have v8:(Int.toNat k) < List.length xs:=by
  omega
 obtain⟨x1,hx1⟩:∃ x,(xs)[(Int.toNat k)]? =some x:=⟨_,List.getElem?_eq_getElem v8⟩
 have w6:=List.mem_of_getElem? hx1
 obtain⟨a8,⟨a1,a0,a2,a4,a3,a6,a7,a5⟩⟩:=x1
 have v3:b2[(Int.toNat k)]? =some [.ii a8,.ii a1,.ii a0,.ii a2,.ii a4,.ii a3,.str a6,.str a7,.str a5]:=by
  exact map_at eItem d4 hx1
 refine ops_step rfl rfl (idx_sl rfl rfl rfl rfl rfl v4 rfl v3) ?_
 refine rz hA 3 ?_
 refine gx hA 4 ?_
 refine gs (gx hA 1 ?_)
 refine go_block ?_
 refine go_loopE (fun σ m=>∃(i:Nat) (n1:Int),σ=(S82_1 b2 k n1 a1 a0 a2 a4 a3 a6 a7 a5 a8)∧(n1=(i:Int)∧i≤List.length (xs.take (Int.toNat k))∧List.any (xs.take (Int.toNat k)) (seqIs (⟨a8,⟨a1,a0,a2,a4,a3,a6,a7,a5⟩⟩:GItem))=List.any (List.drop i (xs.take (Int.toNat k))) (seqIs (⟨a8,⟨a1,a0,a2,a4,a3,a6,a7,a5⟩⟩:GItem)))∧m=List.length (xs.take (Int.toNat k)) - i) _ [] [0,1,5,6,7] [6,5] (S82_1 b2 k 0 a1 a0 a2 a4 a3 a6 a7 a5 a8) rfl (by cbv) ⟨0,0,rfl,?_,rfl⟩ (fun σ m hI=> ?_)
 ·
  exact⟨rfl,Nat.zero_le _,rfl⟩
 obtain⟨i,n1,rfl,⟨hn1,hl1,hE1⟩,rfl⟩:=hI
 refine gs (gx hA 3 ?_)
 refine gc (fun c2=> ?_) (fun c2=> ?_)
 ·
  have ec2:n1 < k:=lss_t hA c2
  refine gk (gs ?_)
  refine go_block ?_
  refine gs ?_
  refine go_draw [0,1,2,3,4,5,6,7] (by cbv) ?_
  refine dn_ hA 2 ?_
  have w3:(0:Int)≤n1:=by
   omega
  have u7:(Int.toNat n1) < List.length xs:=by
   omega
  obtain⟨x3,hx3⟩:∃ x,(xs)[(Int.toNat n1)]? =some x:=⟨_,List.getElem?_eq_getElem u7⟩
  have w8:=List.mem_of_getElem? hx3
  obtain⟨j4,⟨i0,f3,j1,g9,f2,g7,i1,g8⟩⟩:=x3
  have w2:b2[(Int.toNat n1)]? =some [.ii j4,.ii i0,.ii f3,.ii j1,.ii g9,.ii f2,.str g7,.str i1,.str g8]:=by
   exact map_at eItem d4 hx3
  have s2:=hx3
  rw[hn1] at s2
  have s2:(xs)[i]? =some (⟨j4,⟨i0,f3,j1,g9,f2,g7,i1,g8⟩⟩:GItem):=s2
  have u4:(xs.take (Int.toNat k))[i]? =some (⟨j4,⟨i0,f3,j1,g9,f2,g7,i1,g8⟩⟩:GItem):=by rw[List.getElem?_take,if_pos (by omega)];exact s2
  refine dops_step rfl rfl rfl (idx_sl rfl rfl rfl rfl rfl w3 rfl w2) ?_
  refine dz hA 5 ?_
  refine gc (fun c4=> ?_) (fun c4=> ?_)
  ·
   have ec4:j4=a8:=eql_t hA c4
   refine gx hA 1 ?_
   refine rt (gt ?_)
   refine congrArg PV.bool ?_
   have hp:seqIs (⟨a8,⟨a1,a0,a2,a4,a3,a6,a7,a5⟩⟩:GItem) (⟨j4,⟨i0,f3,j1,g9,f2,g7,i1,g8⟩⟩:GItem)=true:=by simp[seqIs,ec2,ec4]
   have H1:List.any (xs.take (Int.toNat k)) (seqIs (⟨a8,⟨a1,a0,a2,a4,a3,a6,a7,a5⟩⟩:GItem))=true:=by rw[hE1,any_at u4,hp];rfl
   rw[needAtZ_some hx1]
   simp only[needZ,needR,seqI,H1,Bool.true_and,Bool.and_true,Bool.false_and,Bool.and_false,Bool.not_false,Bool.not_true]
  have ec4:j4≠a8:=eql_f hA c4
  refine gk (gy hA 3 ?_)
  refine⟨(S82_1 b2 k (A.num .add .i64 n1 1) a1 a0 a2 a4 a3 a6 a7 a5 a8),List.length (xs.take (Int.toNat k)) - (i+1),?_,by cbv,i+1,(A.num .add .i64 n1 1),rfl,?_,rfl⟩
  ·
   omega
  have hp:seqIs (⟨a8,⟨a1,a0,a2,a4,a3,a6,a7,a5⟩⟩:GItem) (⟨j4,⟨i0,f3,j1,g9,f2,g7,i1,g8⟩⟩:GItem)=false:=by simp[seqIs,ec2,ec4,ec4.symm]
  refine⟨by rw[add_i64 hA (by omega) (by omega)];omega,by omega,?_⟩
  rw[hE1,any_at u4,hp]
  rfl
 have ec2:k≤n1:=lss_f hA c2
 refine go_exit ⟨fun _=> ?_,fun h=>absurd rfl h⟩
 refine gs (gs ?_)
 have H1:List.any (xs.take (Int.toNat k)) (seqIs (⟨a8,⟨a1,a0,a2,a4,a3,a6,a7,a5⟩⟩:GItem))=false:=by rw[hE1,List.drop_of_length_le (by first | omega | (rw [List.length_take];omega))];rfl
 refine gy hA 2 ?_
 refine go_block ?_
 refine gx hA 2 ?_
 refine gc (fun c5=> ?_) (fun c5=> ?_)
 ·
  have ec5:a1=1:=eql_t hA c5
  refine gs (gx hA 1 ?_)
  refine go_block ?_
  refine go_loopE (fun σ m=>∃(j:Nat) (n2:Int),σ=(S82_2 b2 n2 a1 a0 a2 a4 a3 a6 a7 a5 a8)∧(n2=(j:Int)∧j≤List.length xs∧List.any xs (biggerB (⟨a8,⟨a1,a0,a2,a4,a3,a6,a7,a5⟩⟩:GItem))=List.any (List.drop j xs) (biggerB (⟨a8,⟨a1,a0,a2,a4,a3,a6,a7,a5⟩⟩:GItem)))∧m=List.length xs - j) _ [] [0,5,6,8] [6,5] (S82_2 b2 0 a1 a0 a2 a4 a3 a6 a7 a5 a8) rfl (by cbv) ⟨0,0,rfl,?_,rfl⟩ (fun σ m hI=> ?_)
  ·
   exact⟨rfl,Nat.zero_le _,rfl⟩
  obtain⟨j,n2,rfl,⟨hn2,hl2,hE2⟩,rfl⟩:=hI
  refine gs (gx hA 4 ?_)
  refine gc (fun c6=> ?_) (fun c6=> ?_)
  ·
   have ec6:n2 < (A.rlen b2):=lss_t hA c6
   refine gk (gs ?_)
   refine go_block ?_
   refine gs ?_
   refine go_draw [0,1,2,3,4,5,6,7,8,9,10,11,12,13,14,15,16,17,18,19,20,21,22,23,24,25] (by cbv) ?_
   refine dn_ hA 2 ?_
   have t4:(0:Int)≤n2:=by
    omega
   have v5:(Int.toNat n2) < List.length xs:=by
    omega
   obtain⟨x7,hx7⟩:∃ x,(xs)[(Int.toNat n2)]? =some x:=⟨_,List.getElem?_eq_getElem v5⟩
   have w7:=List.mem_of_getElem? hx7
   obtain⟨e5,⟨b0,a9,d2,b5,b1,b7,b6,b8⟩⟩:=x7
   have t3:b2[(Int.toNat n2)]? =some [.ii e5,.ii b0,.ii a9,.ii d2,.ii b5,.ii b1,.str b7,.str b6,.str b8]:=by
    exact map_at eItem d4 hx7
   have r1:=hx7
   rw[hn2] at r1
   have r1:(xs)[j]? =some (⟨e5,⟨b0,a9,d2,b5,b1,b7,b6,b8⟩⟩:GItem):=r1
   have q8:xs[j]? =some (⟨e5,⟨b0,a9,d2,b5,b1,b7,b6,b8⟩⟩:GItem):=r1
   refine dops_step rfl rfl rfl (idx_sl rfl rfl rfl rfl rfl t4 rfl t3) ?_
   refine dn_ hA 5 ?_
   refine dops_split 52 rfl (fun c8=> ?_) (fun c8=> ?_)
   ·
    have ec8:b0=1:=eql_t hA c8
    refine dn_ hA 2 ?_
    refine dops_stepG rfl rfl rfl rfl rfl (idx_sl rfl rfl rfl rfl rfl t4 rfl t3) ?_
    refine dn_ hA 8 ?_
    refine dops_split 63 rfl (fun c9=> ?_) (fun c9=> ?_)
    ·
     have ec9:a9=a0:=eql_t hA c9
     refine dn_ hA 2 ?_
     refine dops_stepG rfl rfl rfl rfl rfl (idx_sl rfl rfl rfl rfl rfl t4 rfl t3) ?_
     refine dn_ hA 2 ?_
     obtain⟨q0,q5,v2⟩:∃(q0:Bool),q0=(byNextB (⟨a8,⟨a1,a0,a2,a4,a3,a6,a7,a5⟩⟩:GItem) (⟨e5,⟨b0,a9,d2,b5,b1,b7,b6,b8⟩⟩:GItem))∧Real Tryz.prog 117 [.agg [.ii e5,.ii b0,.ii a9,.ii d2,.ii b5,.ii b1,.str b7,.str b6,.str b8],.agg [.ii a8,.ii a1,.ii a0,.ii a2,.ii a4,.ii a3,.str a6,.str a7,.str a5]] (.bool q0):=⟨_,rfl,by exact r_spec_l08Bigger A hA (⟨e5,⟨b0,a9,d2,b5,b1,b7,b6,b8⟩⟩:GItem) (⟨a8,⟨a1,a0,a2,a4,a3,a6,a7,a5⟩⟩:GItem)⟩
     refine dops_callG rfl rfl rfl rfl (by cbv) (by cbv) v2 (.inr rfl) ?_
     refine dz hA 1 ?_
     refine gc (fun c12=> ?_) (fun c12=> ?_)
     ·
      refine gx hA 1 ?_
      refine rt (gt ?_)
      refine congrArg PV.bool ?_
      have hp:biggerB (⟨a8,⟨a1,a0,a2,a4,a3,a6,a7,a5⟩⟩:GItem) (⟨e5,⟨b0,a9,d2,b5,b1,b7,b6,b8⟩⟩:GItem)=true:=by
       unfold biggerB
       rw[show byNextB (⟨a8,⟨a1,a0,a2,a4,a3,a6,a7,a5⟩⟩:GItem) (⟨e5,⟨b0,a9,d2,b5,b1,b7,b6,b8⟩⟩:GItem)=true from by rw[← q5,c12]]
       simp[kindIs,ec2,Int.not_lt.2 ec2,ec5,ec6,ec8,ec9,c12]
      have H2:List.any xs (biggerB (⟨a8,⟨a1,a0,a2,a4,a3,a6,a7,a5⟩⟩:GItem))=true:=by rw[hE2,any_at q8,hp];rfl
      rw[needAtZ_some hx1]
      simp only[needZ,needR,seqI,if_pos (show a1=1 by first | assumption | omega),if_neg (show ¬ a1=2 by omega),if_neg (show ¬ a1=5 by omega),H1,H2,Bool.true_and,Bool.and_true,Bool.false_and,Bool.and_false,Bool.not_false,Bool.not_true]
     refine gk (gy hA 3 ?_)
     refine⟨(S82_2 b2 (A.num .add .i64 n2 1) a1 a0 a2 a4 a3 a6 a7 a5 a8),List.length xs - (j+1),?_,by cbv,j+1,(A.num .add .i64 n2 1),rfl,?_,rfl⟩
     ·
      omega
     have hp:biggerB (⟨a8,⟨a1,a0,a2,a4,a3,a6,a7,a5⟩⟩:GItem) (⟨e5,⟨b0,a9,d2,b5,b1,b7,b6,b8⟩⟩:GItem)=false:=by
      unfold biggerB
      rw[show byNextB (⟨a8,⟨a1,a0,a2,a4,a3,a6,a7,a5⟩⟩:GItem) (⟨e5,⟨b0,a9,d2,b5,b1,b7,b6,b8⟩⟩:GItem)=false from by rw[← q5,c12]]
      simp[kindIs,ec2,Int.not_lt.2 ec2,ec5,ec6,ec8,ec9,c12]
     refine⟨by rw[add_i64 hA (by omega) (by omega)];omega,by omega,?_⟩
     rw[hE2,any_at q8,hp]
     rfl
    have ec9:a9≠a0:=eql_f hA c9
    refine dz hA 7 ?_
    refine gc (fun c13=> ?_) (fun c13=> ?_)
    ·
     exact no_t c13 (show false=false from by rfl)
    refine gk (gy hA 3 ?_)
    refine⟨(S82_2 b2 (A.num .add .i64 n2 1) a1 a0 a2 a4 a3 a6 a7 a5 a8),List.length xs - (j+1),?_,by cbv,j+1,(A.num .add .i64 n2 1),rfl,?_,rfl⟩
    ·
     omega
    have hp:biggerB (⟨a8,⟨a1,a0,a2,a4,a3,a6,a7,a5⟩⟩:GItem) (⟨e5,⟨b0,a9,d2,b5,b1,b7,b6,b8⟩⟩:GItem)=false:=by simp[biggerB,kindIs,ec2,Int.not_lt.2 ec2,ec5,ec6,ec8,ec9,ec9.symm]
    refine⟨by rw[add_i64 hA (by omega) (by omega)];omega,by omega,?_⟩
    rw[hE2,any_at q8,hp]
    rfl
   have ec8:b0≠1:=eql_f hA c8
   refine dz hA 18 ?_
   refine gc (fun c14=> ?_) (fun c14=> ?_)
   ·
    exact no_t c14 (show false=false from by rfl)
   refine gk (gy hA 3 ?_)
   refine⟨(S82_2 b2 (A.num .add .i64 n2 1) a1 a0 a2 a4 a3 a6 a7 a5 a8),List.length xs - (j+1),?_,by cbv,j+1,(A.num .add .i64 n2 1),rfl,?_,rfl⟩
   ·
    omega
   have hp:biggerB (⟨a8,⟨a1,a0,a2,a4,a3,a6,a7,a5⟩⟩:GItem) (⟨e5,⟨b0,a9,d2,b5,b1,b7,b6,b8⟩⟩:GItem)=false:=by simp[biggerB,kindIs,ec2,Int.not_lt.2 ec2,ec5,ec6,ec8,ec8.symm]
   refine⟨by rw[add_i64 hA (by omega) (by omega)];omega,by omega,?_⟩
   rw[hE2,any_at q8,hp]
   rfl
  have ec6:(A.rlen b2)≤n2:=lss_f hA c6
  refine go_exit ⟨fun _=> ?_,fun h=>absurd rfl h⟩
  refine gs ?_
  have H2:List.any xs (biggerB (⟨a8,⟨a1,a0,a2,a4,a3,a6,a7,a5⟩⟩:GItem))=false:=by rw[hE2,List.drop_of_length_le (by first | omega | (rw [List.length_take];omega))];rfl
  refine gr (rn hA 3 ?_)
  obtain⟨o9,u2,v1⟩:∃(o9:Bool),o9=(thereR a0 xs)∧Real Tryz.prog 118 [.sl 9 b2,.ii a0] (.bool o9):=⟨_,rfl,by subst d4;exact r_spec_l08There A hA xs a0 (by omega)⟩
  refine cvw v1 (.inr rfl) ?_
  refine rz hA 1 ?_
  refine rt (gt ?_)
  refine congrArg PV.bool ?_
  rw[needAtZ_some hx1]
  simp only[needZ,needR,seqI,if_pos (show a1=1 by first | assumption | omega),if_neg (show ¬ a1=2 by omega),if_neg (show ¬ a1=5 by omega),H1,H2,Bool.true_and,Bool.and_true,Bool.false_and,Bool.and_false,Bool.not_false,Bool.not_true]
  exact u2.symm
 have ec5:a1≠1:=eql_f hA c5
 refine gx hA 2 ?_
 refine gc (fun c17=> ?_) (fun c17=> ?_)
 ·
  have r6:a1=2:=eql_t hA c17
  refine gs (gr (rn hA 3 ?_))
  obtain⟨d8,d0,b3,d3,b9,b4,d1,c0,c7,n0,o3,m3,k4,m5,m2,k5,m0,m1,l7,s7,u9⟩:∃(d8:Int) (d0:Int) (b3:Int) (d3:Int) (b9:Int) (b4:Int) (d1:ByteArray) (c0:ByteArray) (c7:ByteArray) (n0:Bool),d8=((Option.getD (lat (mailIs 2 a0 0) bySeqB xs) zItem).Seq)∧d0=(((Option.getD (lat (mailIs 2 a0 0) bySeqB xs) zItem).Rec).Kind)∧b3=(((Option.getD (lat (mailIs 2 a0 0) bySeqB xs) zItem).Rec).Valid)∧d3=(((Option.getD (lat (mailIs 2 a0 0) bySeqB xs) zItem).Rec).Uid)∧b9=(((Option.getD (lat (mailIs 2 a0 0) bySeqB xs) zItem).Rec).Next)∧b4=(((Option.getD (lat (mailIs 2 a0 0) bySeqB xs) zItem).Rec).Flags)∧d1=(((Option.getD (lat (mailIs 2 a0 0) bySeqB xs) zItem).Rec).User)∧c0=(((Option.getD (lat (mailIs 2 a0 0) bySeqB xs) zItem).Rec).Name)∧c7=(((Option.getD (lat (mailIs 2 a0 0) bySeqB xs) zItem).Rec).Text)∧n0=(Option.isSome (lat (mailIs 2 a0 0) bySeqB xs))∧Real Tryz.prog 55 [.sl 9 b2,.ii 2,.ii a0,.ii 0] (.tup [.agg [.ii d8,.ii d0,.ii b3,.ii d3,.ii b9,.ii b4,.str d1,.str c0,.str c7],.bool n0]):=⟨_,_,_,_,_,_,_,_,_,_,rfl,rfl,rfl,rfl,rfl,rfl,rfl,rfl,rfl,rfl,by subst d4;exact r_spec_l07Best A hA xs 2 a0 0 (by omega)⟩
  refine cvw u9 (.inr rfl) ?_
  refine rz hA 6 ?_
  refine gs (gx hA 1 ?_)
  refine go_block ?_
  refine go_loopE (fun σ m=>∃(e:Nat) (n3:Int),σ=(S82_3 b2 n3 d8 d0 b3 d3 b9 b4 d1 c0 c7 a1 a0 a2 a4 a3 a6 a7 a5 a8)∧(n3=(e:Int)∧e≤List.length xs∧List.any xs (othB (⟨a1,a0,a2,a4,a3,a6,a7,a5⟩:GRec))=List.any (List.drop e xs) (othB (⟨a1,a0,a2,a4,a3,a6,a7,a5⟩:GRec)))∧m=List.length xs - e) _ [] [0,5,6,9,11] [9,6,5] (S82_3 b2 0 d8 d0 b3 d3 b9 b4 d1 c0 c7 a1 a0 a2 a4 a3 a6 a7 a5 a8) rfl (by cbv) ⟨0,0,rfl,?_,rfl⟩ (fun σ m hI=> ?_)
  ·
   exact⟨rfl,Nat.zero_le _,rfl⟩
  obtain⟨e,n3,rfl,⟨hn3,hl3,hE3⟩,rfl⟩:=hI
  refine gs (gx hA 4 ?_)
  refine gc (fun c20=> ?_) (fun c20=> ?_)
  ·
   have r5:n3 < (A.rlen b2):=lss_t hA c20
   refine gk (gs ?_)
   refine go_block ?_
   refine gs ?_
   refine go_draw [0,1,2,3,4,5,6,7,8,9,10,11,12,13,14,15,16,17] (by cbv) ?_
   refine dn_ hA 2 ?_
   have u1:(0:Int)≤n3:=by
    omega
   have u6:(Int.toNat n3) < List.length xs:=by
    omega
   obtain⟨x21,t6⟩:∃ x,(xs)[(Int.toNat n3)]? =some x:=⟨_,List.getElem?_eq_getElem u6⟩
   have w5:=List.mem_of_getElem? t6
   obtain⟨j2,⟨d9,d7,e6,e2,e0,e3,e1,e4⟩⟩:=x21
   have t9:b2[(Int.toNat n3)]? =some [.ii j2,.ii d9,.ii d7,.ii e6,.ii e2,.ii e0,.str e3,.str e1,.str e4]:=by
    exact map_at eItem d4 t6
   have o5:=t6
   rw[hn3] at o5
   have o5:(xs)[e]? =some (⟨j2,⟨d9,d7,e6,e2,e0,e3,e1,e4⟩⟩:GItem):=o5
   have r4:xs[e]? =some (⟨j2,⟨d9,d7,e6,e2,e0,e3,e1,e4⟩⟩:GItem):=o5
   refine dops_step rfl rfl rfl (idx_sl rfl rfl rfl rfl rfl u1 rfl t9) ?_
   refine dn_ hA 5 ?_
   refine dops_split 97 rfl (fun c22=> ?_) (fun c22=> ?_)
   ·
    have n9:d9≠2:=neq_t hA c22
    refine dn_ hA 2 ?_
    refine dops_stepG rfl rfl rfl rfl rfl (idx_sl rfl rfl rfl rfl rfl u1 rfl t9) ?_
    refine dz hA 7 ?_
    refine gc (fun c23=> ?_) (fun c23=> ?_)
    ·
     have r8:d7=a0:=eql_t hA c23
     refine gx hA 6 ?_
     refine rt (gt ?_)
     show _=(PV.bool (A.cmp .eql d8 a8))
     refine congrArg PV.bool ?_
     have hp:othB (⟨a1,a0,a2,a4,a3,a6,a7,a5⟩:GRec) (⟨j2,⟨d9,d7,e6,e2,e0,e3,e1,e4⟩⟩:GItem)=true:=by simp[othB,ec2,Int.not_lt.2 ec2,ec5,ec5.symm,r6,r5,n9,n9.symm,r8]
     have H3:List.any xs (othB (⟨a1,a0,a2,a4,a3,a6,a7,a5⟩:GRec))=true:=by rw[hE3,any_at r4,hp];rfl
     rw[needAtZ_some hx1]
     simp only[needZ,needR,seqI,if_neg (show ¬ a1=1 by first | assumption | omega),if_pos (show a1=2 by first | assumption | omega),if_neg (show ¬ a1=5 by omega),H1,H3,Bool.true_and,Bool.and_true,Bool.false_and,Bool.and_false,Bool.not_false,Bool.not_true]
     subst hA
     simp only[o3,m3,k4,m5,m2,k5,m0,m1,l7,s7]
     rfl
    have r8:d7≠a0:=eql_f hA c23
    refine gk (gy hA 3 ?_)
    refine⟨(S82_3 b2 (A.num .add .i64 n3 1) d8 d0 b3 d3 b9 b4 d1 c0 c7 a1 a0 a2 a4 a3 a6 a7 a5 a8),List.length xs - (e+1),?_,by cbv,e+1,(A.num .add .i64 n3 1),rfl,?_,rfl⟩
    ·
     omega
    have hp:othB (⟨a1,a0,a2,a4,a3,a6,a7,a5⟩:GRec) (⟨j2,⟨d9,d7,e6,e2,e0,e3,e1,e4⟩⟩:GItem)=false:=by simp[othB,ec2,Int.not_lt.2 ec2,ec5,ec5.symm,r6,r5,n9,n9.symm,r8,r8.symm]
    refine⟨by rw[add_i64 hA (by omega) (by omega)];omega,by omega,?_⟩
    rw[hE3,any_at r4,hp]
    rfl
   have n9:d9=2:=neq_f hA c22
   refine dz hA 10 ?_
   refine gc (fun c24=> ?_) (fun c24=> ?_)
   ·
    exact no_t c24 (show false=false from by rfl)
   refine gk (gy hA 3 ?_)
   refine⟨(S82_3 b2 (A.num .add .i64 n3 1) d8 d0 b3 d3 b9 b4 d1 c0 c7 a1 a0 a2 a4 a3 a6 a7 a5 a8),List.length xs - (e+1),?_,by cbv,e+1,(A.num .add .i64 n3 1),rfl,?_,rfl⟩
   ·
    omega
   have hp:othB (⟨a1,a0,a2,a4,a3,a6,a7,a5⟩:GRec) (⟨j2,⟨d9,d7,e6,e2,e0,e3,e1,e4⟩⟩:GItem)=false:=by simp[othB,ec2,Int.not_lt.2 ec2,ec5,ec5.symm,r6,r5,n9]
   refine⟨by rw[add_i64 hA (by omega) (by omega)];omega,by omega,?_⟩
   rw[hE3,any_at r4,hp]
   rfl
  have r5:(A.rlen b2)≤n3:=lss_f hA c20
  refine go_exit ⟨fun _=> ?_,fun h=>absurd rfl h⟩
  refine gs ?_
  have H3:List.any xs (othB (⟨a1,a0,a2,a4,a3,a6,a7,a5⟩:GRec))=false:=by rw[hE3,List.drop_of_length_le (by first | omega | (rw [List.length_take];omega))];rfl
  refine gy hA 1 ?_
  refine rt (gt ?_)
  refine congrArg PV.bool ?_
  rw[needAtZ_some hx1]
  simp only[needZ,needR,seqI,if_neg (show ¬ a1=1 by first | assumption | omega),if_pos (show a1=2 by first | assumption | omega),if_neg (show ¬ a1=5 by omega),H1,H3,Bool.true_and,Bool.and_true,Bool.false_and,Bool.and_false,Bool.not_false,Bool.not_true]
 have r6:a1≠2:=eql_f hA c17
 refine gx hA 2 ?_
 refine gc (fun c25=> ?_) (fun c25=> ?_)
 ·
  have w4:a1=5:=eql_t hA c25
  refine gs (gr (rn hA 5 ?_))
  obtain⟨i3,g0,e8,g5,f4,e7,f6,f1,g2,l9,n8,l4,j8,l5,k6,k0,l3,l2,l0,r2,w1⟩:∃(i3:Int) (g0:Int) (e8:Int) (g5:Int) (f4:Int) (e7:Int) (f6:ByteArray) (f1:ByteArray) (g2:ByteArray) (l9:Bool),i3=((Option.getD (lat (mailIs 5 a0 a2) bySeqB xs) zItem).Seq)∧g0=(((Option.getD (lat (mailIs 5 a0 a2) bySeqB xs) zItem).Rec).Kind)∧e8=(((Option.getD (lat (mailIs 5 a0 a2) bySeqB xs) zItem).Rec).Valid)∧g5=(((Option.getD (lat (mailIs 5 a0 a2) bySeqB xs) zItem).Rec).Uid)∧f4=(((Option.getD (lat (mailIs 5 a0 a2) bySeqB xs) zItem).Rec).Next)∧e7=(((Option.getD (lat (mailIs 5 a0 a2) bySeqB xs) zItem).Rec).Flags)∧f6=(((Option.getD (lat (mailIs 5 a0 a2) bySeqB xs) zItem).Rec).User)∧f1=(((Option.getD (lat (mailIs 5 a0 a2) bySeqB xs) zItem).Rec).Name)∧g2=(((Option.getD (lat (mailIs 5 a0 a2) bySeqB xs) zItem).Rec).Text)∧l9=(Option.isSome (lat (mailIs 5 a0 a2) bySeqB xs))∧Real Tryz.prog 55 [.sl 9 b2,.ii 5,.ii a0,.ii a2] (.tup [.agg [.ii i3,.ii g0,.ii e8,.ii g5,.ii f4,.ii e7,.str f6,.str f1,.str g2],.bool l9]):=⟨_,_,_,_,_,_,_,_,_,_,rfl,rfl,rfl,rfl,rfl,rfl,rfl,rfl,rfl,rfl,by subst d4;exact r_spec_l07Best A hA xs 5 a0 a2 (by omega)⟩
  refine cvw w1 (.inr rfl) ?_
  refine rz hA 6 ?_
  refine gs (gr (rn hA 3 ?_))
  obtain⟨o1,m9,w0⟩:∃(o1:Bool),o1=(thereR a0 xs)∧Real Tryz.prog 118 [.sl 9 b2,.ii a0] (.bool o1):=⟨_,rfl,by subst d4;exact r_spec_l08There A hA xs a0 (by omega)⟩
  refine cvw w0 (.inr rfl) ?_
  refine rn hA 1 ?_
  refine ops_split 128 rfl (fun c30=> ?_) (fun c30=> ?_)
  ·
   refine rn hA 5 ?_
   obtain⟨o0,o8,v7⟩:∃(o0:Bool),o0=(Option.isSome (lat (mailIs 3 a0 a2) bySeqB xs))∧Real Tryz.prog 119 [.sl 9 b2,.ii 3,.ii a0,.ii a2] (.bool o0):=⟨_,rfl,by subst d4;exact r_spec_l08Has A hA xs 3 a0 a2 (by omega)⟩
   refine ops_callG rfl rfl rfl rfl (by cbv) (by cbv) v7 (.inr rfl) (by cbv) ?_
   refine rn hA 2 ?_
   refine ops_split 136 rfl (fun c33=> ?_) (fun c33=> ?_)
   ·
    refine rz hA 7 ?_
    refine rt (gt ?_)
    show _=(PV.bool (A.cmp .eql i3 a8))
    refine congrArg PV.bool ?_
    have j3:(thereR a0 xs)=true:=by rw[← m9,c30]
    have m6:(Option.isSome (lat (mailIs 3 a0 a2) bySeqB xs))=true:=by rw[← o8,c33]
    rw[needAtZ_some hx1]
    simp only[needZ,needR,seqI,if_neg (show ¬ a1=1 by first | assumption | omega),if_neg (show ¬ a1=2 by first | assumption | omega),if_pos (show a1=5 by first | assumption | omega),H1,j3,m6,Bool.true_and,Bool.and_true,Bool.false_and,Bool.and_false,Bool.not_false,Bool.not_true]
    subst hA
    simp only[n8,l4,j8,l5,k6,k0,l3,l2,l0,r2]
    rfl
   refine rz hA 7 ?_
   refine rt (gt ?_)
   refine congrArg PV.bool ?_
   have j3:(thereR a0 xs)=true:=by rw[← m9,c30]
   have m6:(Option.isSome (lat (mailIs 3 a0 a2) bySeqB xs))=false:=by rw[← o8,c33]
   rw[needAtZ_some hx1]
   simp only[needZ,needR,seqI,if_neg (show ¬ a1=1 by first | assumption | omega),if_neg (show ¬ a1=2 by first | assumption | omega),if_pos (show a1=5 by first | assumption | omega),H1,j3,m6,Bool.true_and,Bool.and_true,Bool.false_and,Bool.and_false,Bool.not_false,Bool.not_true]
  refine rz hA 15 ?_
  refine rt (gt ?_)
  refine congrArg PV.bool ?_
  have j3:(thereR a0 xs)=false:=by rw[← m9,c30]
  rw[needAtZ_some hx1]
  simp only[needZ,needR,seqI,if_neg (show ¬ a1=1 by first | assumption | omega),if_neg (show ¬ a1=2 by first | assumption | omega),if_pos (show a1=5 by first | assumption | omega),H1,j3,Bool.true_and,Bool.and_true,Bool.false_and,Bool.and_false,Bool.not_false,Bool.not_true]
 have w4:a1≠5:=eql_f hA c25
 refine gk (gs (gr (rn hA 7 ?_)))
 obtain⟨i2,g1,f0,g4,f5,e9,f9,f7,f8,l8,n7,k9,j9,l6,k7,k1,l1,k3,k8,s1,v6⟩:∃(i2:Int) (g1:Int) (f0:Int) (g4:Int) (f5:Int) (e9:Int) (f9:ByteArray) (f7:ByteArray) (f8:ByteArray) (l8:Bool),i2=((Option.getD (lat (mailIs a1 a0 a2) bySeqB xs) zItem).Seq)∧g1=(((Option.getD (lat (mailIs a1 a0 a2) bySeqB xs) zItem).Rec).Kind)∧f0=(((Option.getD (lat (mailIs a1 a0 a2) bySeqB xs) zItem).Rec).Valid)∧g4=(((Option.getD (lat (mailIs a1 a0 a2) bySeqB xs) zItem).Rec).Uid)∧f5=(((Option.getD (lat (mailIs a1 a0 a2) bySeqB xs) zItem).Rec).Next)∧e9=(((Option.getD (lat (mailIs a1 a0 a2) bySeqB xs) zItem).Rec).Flags)∧f9=(((Option.getD (lat (mailIs a1 a0 a2) bySeqB xs) zItem).Rec).User)∧f7=(((Option.getD (lat (mailIs a1 a0 a2) bySeqB xs) zItem).Rec).Name)∧f8=(((Option.getD (lat (mailIs a1 a0 a2) bySeqB xs) zItem).Rec).Text)∧l8=(Option.isSome (lat (mailIs a1 a0 a2) bySeqB xs))∧Real Tryz.prog 55 [.sl 9 b2,.ii a1,.ii a0,.ii a2] (.tup [.agg [.ii i2,.ii g1,.ii f0,.ii g4,.ii f5,.ii e9,.str f9,.str f7,.str f8],.bool l8]):=⟨_,_,_,_,_,_,_,_,_,_,rfl,rfl,rfl,rfl,rfl,rfl,rfl,rfl,rfl,rfl,by subst d4;exact r_spec_l07Best A hA xs a1 a0 a2 (by omega)⟩
 refine cvw v6 (.inr rfl) ?_
 refine rz hA 6 ?_
 refine gs (gr (rn hA 3 ?_))
 obtain⟨o2,k2,v0⟩:∃(o2:Bool),o2=(thereR a0 xs)∧Real Tryz.prog 118 [.sl 9 b2,.ii a0] (.bool o2):=⟨_,rfl,by subst d4;exact r_spec_l08There A hA xs a0 (by omega)⟩
 refine cvw v0 (.inr rfl) ?_
 refine rn hA 1 ?_
 refine ops_split 158 rfl (fun c38=> ?_) (fun c38=> ?_)
 ·
  refine rn hA 5 ?_
  obtain⟨n6,m8,u8⟩:∃(n6:Bool),n6=(Option.isSome (lat (mailIs 3 a0 a2) bySeqB xs))∧Real Tryz.prog 119 [.sl 9 b2,.ii 3,.ii a0,.ii a2] (.bool n6):=⟨_,rfl,by subst d4;exact r_spec_l08Has A hA xs 3 a0 a2 (by omega)⟩
  refine ops_callG rfl rfl rfl rfl (by cbv) (by cbv) u8 (.inr rfl) (by cbv) ?_
  refine rn hA 2 ?_
  refine ops_split 166 rfl (fun c41=> ?_) (fun c41=> ?_)
  ·
   refine rn hA 5 ?_
   obtain⟨j7,o7,v9⟩:∃(j7:Bool),j7=(Option.isSome (lat (mailIs 5 a0 a2) bySeqB xs))∧Real Tryz.prog 119 [.sl 9 b2,.ii 5,.ii a0,.ii a2] (.bool j7):=⟨_,rfl,by subst d4;exact r_spec_l08Has A hA xs 5 a0 a2 (by omega)⟩
   refine ops_callG rfl rfl rfl rfl (by cbv) (by cbv) v9 (.inr rfl) (by cbv) ?_
   refine rn hA 3 ?_
   refine ops_split 175 rfl (fun c44=> ?_) (fun c44=> ?_)
   ·
    have c45:j7=false:=bnot_t hA c44
    refine rz hA 7 ?_
    refine rt (gt ?_)
    show _=(PV.bool (A.cmp .eql i2 a8))
    refine congrArg PV.bool ?_
    have i5:(thereR a0 xs)=true:=by rw[← k2,c38]
    have j5:(Option.isSome (lat (mailIs 3 a0 a2) bySeqB xs))=true:=by rw[← m8,c41]
    have m7:(Option.isSome (lat (mailIs 5 a0 a2) bySeqB xs))=false:=by rw[← o7,c45]
    rw[needAtZ_some hx1]
    simp only[needZ,needR,seqI,if_neg (show ¬ a1=1 by first | assumption | omega),if_neg (show ¬ a1=2 by first | assumption | omega),if_neg (show ¬ a1=5 by first | assumption | omega),H1,i5,j5,m7,Bool.true_and,Bool.and_true,Bool.false_and,Bool.and_false,Bool.not_false,Bool.not_true]
    subst hA
    simp only[n7,k9,j9,l6,k7,k1,l1,k3,k8,s1]
    rfl
   have c46:j7=true:=bnot_f hA c44
   refine rz hA 7 ?_
   refine rt (gt ?_)
   refine congrArg PV.bool ?_
   have i5:(thereR a0 xs)=true:=by rw[← k2,c38]
   have j5:(Option.isSome (lat (mailIs 3 a0 a2) bySeqB xs))=true:=by rw[← m8,c41]
   have m7:(Option.isSome (lat (mailIs 5 a0 a2) bySeqB xs))=true:=by rw[← o7,c46]
   rw[needAtZ_some hx1]
   simp only[needZ,needR,seqI,if_neg (show ¬ a1=1 by first | assumption | omega),if_neg (show ¬ a1=2 by first | assumption | omega),if_neg (show ¬ a1=5 by first | assumption | omega),H1,i5,j5,m7,Bool.true_and,Bool.and_true,Bool.false_and,Bool.and_false,Bool.not_false,Bool.not_true]
  refine rz hA 16 ?_
  refine rt (gt ?_)
  refine congrArg PV.bool ?_
  have i5:(thereR a0 xs)=true:=by rw[← k2,c38]
  have j5:(Option.isSome (lat (mailIs 3 a0 a2) bySeqB xs))=false:=by rw[← m8,c41]
  rw[needAtZ_some hx1]
  simp only[needZ,needR,seqI,if_neg (show ¬ a1=1 by first | assumption | omega),if_neg (show ¬ a1=2 by first | assumption | omega),if_neg (show ¬ a1=5 by first | assumption | omega),H1,i5,j5,Bool.true_and,Bool.and_true,Bool.false_and,Bool.and_false,Bool.not_false,Bool.not_true]
 refine rz hA 24 ?_
 refine rt (gt ?_)
 refine congrArg PV.bool ?_
 have i5:(thereR a0 xs)=false:=by rw[← k2,c38]
 rw[needAtZ_some hx1]
 simp only[needZ,needR,seqI,if_neg (show ¬ a1=1 by first | assumption | omega),if_neg (show ¬ a1=2 by first | assumption | omega),if_neg (show ¬ a1=5 by first | assumption | omega),H1,i5,Bool.true_and,Bool.and_true,Bool.false_and,Bool.and_false,Bool.not_false,Bool.not_true]
end Go.Av
