/- Walks: items that are right. -/
import Derived.Test.YtjbokkoiicoahaaGreatDoorJ5
namespace Go.Av
open Go Go.Proofs
set_option maxRecDepth 100000
set_option maxHeartbeats 4000000
set_option linter.unusedVariables false
set_option linter.unusedSimpArgs false
theorem it_at {xs:List GItem}{i:Nat}{x:GItem}(h:xs[i]? =some x):itGo (xs.take i) (xs.drop i)=((itmB x && !((xs.take i).any (clash x))) && itGo (xs.take (i+1)) (xs.drop (i+1))):=by
 rw[List.take_add_one,h]
 obtain⟨hl,rfl⟩:=List.getElem?_eq_some_iff.1 h
 rw[List.drop_eq_getElem_cons hl];rfl
theorem it_end {xs:List GItem}{i:Nat}(h:xs.length≤i):itGo (xs.take i) (xs.drop i)=true:=by
 rw[List.drop_of_length_le h];rfl
theorem gt_not {a:Int}(h:200 < a):¬ a≤200:=by omega
theorem r_clash (A:Alg)(hA:A=std)(y:GItem)(q0 q1 q2 q3 q4 q5:Int)(q6 q7 q8:ByteArray):Real Tryz.prog 100 [.agg (eItem y),.rd [.ii q0,.ii q1,.ii q2,.ii q3,.ii q4,.ii q5,.str q6,.str q7,.str q8]] (.bool (clash (⟨q0,⟨q1,q2,q3,q4,q5,q6,q7,q8⟩⟩:GItem) y)):=by
 obtain⟨f0,⟨e5,d9,e8,e3,e0,e2,e1,e4⟩⟩:=y
 refine real_args (args':=[.agg [.ii f0,.ii e5,.ii d9,.ii e8,.ii e3,.ii e0,.str e2,.str e1,.str e4],.rd [.ii q0,.ii q1,.ii q2,.ii q3,.ii q4,.ii q5,.str q6,.str q7,.str q8]]) (by rfl) ?_
 refine real tyOk Tryz.func100 (by kernel_rfl) (afun_of rfl ?_)
 refine gx hA 2 ?_
 refine gs (gr (rn hA 6 ?_))
 refine ops_split 9 rfl (fun c1=> ?_) (fun c1=> ?_)
 ·
  have ec1:f0=q0:=eql_t hA c1
  refine rz hA 5 ?_
  refine rt (gt ?_)
  show _=(PV.bool (A.bnot (A.aeq [.ii f0,.ii e5,.ii d9,.ii e8,.ii e3,.ii e0,.str e2,.str e1,.str e4] [.ii q0,.ii q1,.ii q2,.ii q3,.ii q4,.ii q5,.str q6,.str q7,.str q8])))
  refine congrArg PV.bool ?_
  have hq:clash (⟨q0,⟨q1,q2,q3,q4,q5,q6,q7,q8⟩⟩:GItem) (⟨f0,⟨e5,d9,e8,e3,e0,e2,e1,e4⟩⟩:GItem)= !(pvEqL (eItem (⟨f0,⟨e5,d9,e8,e3,e0,e2,e1,e4⟩⟩:GItem)) (eItem (⟨q0,⟨q1,q2,q3,q4,q5,q6,q7,q8⟩⟩:GItem))):=by simp[clash,ec1]
  rw[hq]
  subst hA
  rfl
 have ec1:f0≠q0:=eql_f hA c1
 refine rz hA 5 ?_
 refine rt (gt ?_)
 refine congrArg PV.bool ?_
 simp[clash,ec1,ec1.symm]
def Sr_IndexFunc_clash_1 (p0:RR)(p1:Int)(p2:Int)(p3:Int)(p4:Int)(p5:Int)(p6:Int)(p7:ByteArray)(p8:ByteArray)(p9:ByteArray)(p10:Int)(p11:Int):St:={sl:=[.sl 9 p0,.fn 100 [.rd [.ii p1,.ii p2,.ii p3,.ii p4,.ii p5,.ii p6,.str p7,.str p8,.str p9]],.bad,.bad,.bad,.bad,.bad,.ii p10,.ii p11,.bad,.bad,.bad,.bad,.bad,.bad,.bad,.bad,.bad,.bad],bl:=[]}
theorem r_IndexFunc_clash (A:Alg)(hA:A=std)(xs:List GItem)(hx:(List.length xs:Int)≤4611686018427387904)(q0 q1 q2 q3 q4 q5:Int)(q6 q7 q8:ByteArray):Real Tryz.prog 134 [.sl 9 (List.map eItem xs),.fn 100 [.rd [.ii q0,.ii q1,.ii q2,.ii q3,.ii q4,.ii q5,.str q6,.str q7,.str q8]]] (.ii (ixF (clash (⟨q0,⟨q1,q2,q3,q4,q5,q6,q7,q8⟩⟩:GItem)) xs 0)):=by
 obtain⟨b1,d4⟩:=nm (xs.map eItem)
 have d5:=rlen_map hA d4
 refine real_args (args':=[.sl 9 b1,.fn 100 [.rd [.ii q0,.ii q1,.ii q2,.ii q3,.ii q4,.ii q5,.str q6,.str q7,.str q8]]]) (by subst d4;rfl) ?_
 refine real tyOk Tryz.func134 (by kernel_rfl) (afun_of rfl ?_)
 refine gx hA 1 ?_
 refine gs (gx hA 3 ?_)
 refine go_block ?_
 refine go_loopE (fun σ m=>∃(i:Nat) (n:Int),σ=(Sr_IndexFunc_clash_1 b1 q0 q1 q2 q3 q4 q5 q6 q7 q8 (A.rlen b1) n)∧(n=(i:Int)∧i≤List.length xs∧ixF (clash (⟨q0,⟨q1,q2,q3,q4,q5,q6,q7,q8⟩⟩:GItem)) xs 0=ixF (clash (⟨q0,⟨q1,q2,q3,q4,q5,q6,q7,q8⟩⟩:GItem)) (xs.drop i) i)∧m=List.length xs - i) _ [] [0,1,7,8] [] (Sr_IndexFunc_clash_1 b1 q0 q1 q2 q3 q4 q5 q6 q7 q8 (A.rlen b1) 0) rfl (by cbv) ⟨0,0,rfl,?_,rfl⟩ (fun σ m hI=> ?_)
 ·
  exact⟨rfl,Nat.zero_le _,rfl⟩
 obtain⟨i,n,rfl,⟨hn,hi,hE⟩,rfl⟩:=hI
 refine gx hA 1 ?_
 refine gs ?_
 refine gc (fun c1=> ?_) (fun c1=> ?_)
 ·
  have ec1:n < (A.rlen b1):=lss_t hA c1
  refine gk (gs ?_)
  refine go_block ?_
  refine gx hA 2 ?_
  refine gs (gr (rn hA 3 ?_))
  have f5:(0:Int)≤n:=by
   omega
  have g5:(Int.toNat n) < List.length xs:=by
   omega
  obtain⟨x2,hx2⟩:∃ x,(xs)[(Int.toNat n)]? =some x:=⟨_,List.getElem?_eq_getElem g5⟩
  have i1:=List.mem_of_getElem? hx2
  obtain⟨a8,⟨a3,a0,a7,a4,a1,a6,a2,a5⟩⟩:=x2
  have f8:b1[(Int.toNat n)]? =some [.ii a8,.ii a3,.ii a0,.ii a7,.ii a4,.ii a1,.str a6,.str a2,.str a5]:=by
   exact map_at eItem d4 hx2
  have d8:=hx2
  rw[hn] at d8
  have d8:(xs)[i]? =some (⟨a8,⟨a3,a0,a7,a4,a1,a6,a2,a5⟩⟩:GItem):=d8
  refine ops_step rfl rfl (idx_sl rfl rfl rfl rfl rfl f5 rfl f8) ?_
  refine rn hA 1 ?_
  obtain⟨e6,e7,hc4⟩:∃(e6:Bool),e6=(clash (⟨q0,⟨q1,q2,q3,q4,q5,q6,q7,q8⟩⟩:GItem) (⟨a8,⟨a3,a0,a7,a4,a1,a6,a2,a5⟩⟩:GItem))∧Real Tryz.prog 100 [.agg [.ii a8,.ii a3,.ii a0,.ii a7,.ii a4,.ii a1,.str a6,.str a2,.str a5],.rd [.ii q0,.ii q1,.ii q2,.ii q3,.ii q4,.ii q5,.str q6,.str q7,.str q8]] (.bool e6):=⟨_,rfl,by exact r_clash A hA (⟨a8,⟨a3,a0,a7,a4,a1,a6,a2,a5⟩⟩:GItem) q0 q1 q2 q3 q4 q5 q6 q7 q8⟩
  refine cvw hc4 (.inr rfl) ?_
  refine od ?_
  refine gc (fun c5=> ?_) (fun c5=> ?_)
  ·
   refine gx hA 2 ?_
   refine rt (gt ?_)
   refine congrArg (PV.int .i64) ?_
   rw[hE,ix_at d8]
   subst e7
   simp[ec1,c5,hn]
  refine gk (gy hA 2 ?_)
  refine⟨(Sr_IndexFunc_clash_1 b1 q0 q1 q2 q3 q4 q5 q6 q7 q8 (A.rlen b1) (A.num .add .i64 n 1)),List.length xs - (i+1),?_,by cbv,i+1,(A.num .add .i64 n 1),rfl,?_,rfl⟩
  ·
   omega
  refine⟨by rw[add_i64 hA (by omega) (by omega)];omega,by omega,?_⟩
  rw[hE,ix_at d8]
  subst e7
  simp[ec1,c5]
 have ec1:(A.rlen b1)≤n:=lss_f hA c1
 refine go_exit ⟨fun _=> ?_,fun h=>absurd rfl h⟩
 refine gx hA 1 ?_
 refine rt (gt ?_)
 refine congrArg (PV.int .i64) ?_
 rw[hE];exact ix_end (by omega)
theorem r_ContainsFunc_clash (A:Alg)(hA:A=std)(xs:List GItem)(hx:(List.length xs:Int)≤4611686018427387904)(q0 q1 q2 q3 q4 q5:Int)(q6 q7 q8:ByteArray):Real Tryz.prog 99 [.sl 9 (List.map eItem xs),.fn 100 [.rd [.ii q0,.ii q1,.ii q2,.ii q3,.ii q4,.ii q5,.str q6,.str q7,.str q8]]] (.bool (List.any xs (clash (⟨q0,⟨q1,q2,q3,q4,q5,q6,q7,q8⟩⟩:GItem)))):=by
 obtain⟨b1,d4⟩:=nm (xs.map eItem)
 have d5:=rlen_map hA d4
 refine real_args (args':=[.sl 9 b1,.fn 100 [.rd [.ii q0,.ii q1,.ii q2,.ii q3,.ii q4,.ii q5,.str q6,.str q7,.str q8]]]) (by subst d4;rfl) ?_
 refine real tyOk Tryz.func99 (by kernel_rfl) (afun_of rfl ?_)
 refine gx hA 1 ?_
 refine gs (gr (rn hA 2 ?_))
 obtain⟨g3,i4,hc2⟩:∃(g3:Int),g3=(ixF (clash (⟨q0,⟨q1,q2,q3,q4,q5,q6,q7,q8⟩⟩:GItem)) xs 0)∧Real Tryz.prog 134 [.sl 9 b1,.fn 100 [.rd [.ii q0,.ii q1,.ii q2,.ii q3,.ii q4,.ii q5,.str q6,.str q7,.str q8]]] (.ii g3):=⟨_,rfl,by subst d4;exact r_IndexFunc_clash A hA xs (by first | omega | (rw [List.length_take];omega)) q0 q1 q2 q3 q4 q5 q6 q7 q8⟩
 refine cvw hc2 (.inr rfl) ?_
 refine rz hA 2 ?_
 refine rt (gt ?_)
 show _=(PV.bool (A.cmp .geq g3 0))
 refine congrArg PV.bool ?_
 rw[i4];exact(ix_any' hA _).symm
def S69_1 (p0:RR)(p1:Int)(p2:Int):St:={sl:=[.sl 9 p0,.bad,.bad,.bad,.bad,.bad,.bad,.bad,.sl 9 p0,.ii p1,.ii p2,.bad,.bad,.bad,.bad,.bad,.bad,.bad,.bad,.bad,.bad,.bad,.bad,.bad,.bad,.bad,.bad,.bad,.bad,.bad,.bad],bl:=[]}
theorem r_impl_ItemsOk (A:Alg)(hA:A=std)(xs:List GItem)(hz:∀ q∈zsItemS xs,(q:Int)≤4611686018427387904):Real Tryz.prog 69 [.sl 9 (List.map eItem xs)] (.bool (itemsOk xs)):=by
 obtain⟨b1,d4⟩:=nm (xs.map eItem)
 have d5:=rlen_map hA d4
 refine real_args (args':=[.sl 9 b1]) (by subst d4;rfl) ?_
 have hx:(List.length xs:Int)≤4611686018427387904:=hz _ (List.mem_cons_self ..)
 refine real tyOk Tryz.func69 (by kernel_rfl) (afun_of rfl ?_)
 refine gx hA 1 ?_
 refine gs (gx hA 3 ?_)
 refine gc (fun c1=> ?_) (fun c1=> ?_)
 ·
  have ec1:200 < (A.rlen b1):=gtr_t hA c1
  refine gx hA 1 ?_
  refine rt (gt ?_)
  refine congrArg PV.bool ?_
  try simp only[slen_eq hA,d5] at *
  subst hA
  simp[itemsOk,gt_not ec1,std,ec1]
 have ec1:(A.rlen b1)≤200:=gtr_f hA c1
 refine gk (gs (gx hA 3 ?_))
 refine go_block ?_
 refine go_loopE (fun σ m=>∃(i:Nat) (n:Int),σ=(S69_1 b1 (A.rlen b1) n)∧(n=(i:Int)∧i≤List.length xs∧itGo [] xs=itGo (xs.take i) (xs.drop i))∧m=List.length xs - i) _ [] [0,8,9,10] [] (S69_1 b1 (A.rlen b1) 0) rfl (by cbv) ⟨0,0,rfl,?_,rfl⟩ (fun σ m hI=> ?_)
 ·
  exact⟨rfl,Nat.zero_le _,rfl⟩
 obtain⟨i,n,rfl,⟨hn,hi,hE⟩,rfl⟩:=hI
 refine gx hA 1 ?_
 refine gs ?_
 refine gc (fun c2=> ?_) (fun c2=> ?_)
 ·
  have ec2:n < (A.rlen b1):=lss_t hA c2
  refine gk (gs ?_)
  refine go_block ?_
  refine gs (gr (rn hA 1 ?_))
  have j0:(0:Int)≤n:=by
   omega
  have i5:(Int.toNat n) < List.length xs:=by
   omega
  obtain⟨x3,hx3⟩:∃ x,(xs)[(Int.toNat n)]? =some x:=⟨_,List.getElem?_eq_getElem i5⟩
  have i8:=List.mem_of_getElem? hx3
  obtain⟨d7,⟨d0,b9,d3,c4,b8,c0,d1,c3⟩⟩:=x3
  have i9:b1[(Int.toNat n)]? =some [.ii d7,.ii d0,.ii b9,.ii d3,.ii c4,.ii b8,.str c0,.str d1,.str c3]:=by
   exact map_at eItem d4 hx3
  have f2:=hx3
  rw[hn] at f2
  have f2:(xs)[i]? =some (⟨d7,⟨d0,b9,d3,c4,b8,c0,d1,c3⟩⟩:GItem):=f2
  have zR:∀ q∈zsRec (GItem.Rec (⟨d7,⟨d0,b9,d3,c4,b8,c0,d1,c3⟩⟩:GItem)),(q:Int)≤4611686018427387904:=fun q hq=>hz q (List.mem_cons_of_mem _ (List.mem_flatMap.2 ⟨_,i8,by simp only[zsItem,List.mem_append];exact .inl hq⟩))
  refine ops_step rfl rfl (idx_sl rfl rfl rfl rfl rfl j0 rfl i9) ?_
  refine rz hA 4 ?_
  refine gs (gs (gr (rn hA 2 ?_)))
  obtain⟨f4,f3,hc5⟩:∃(f4:Bool),f4=(inR d7 1 1000000000)∧Real Tryz.prog 91 [.ii d7,.ii 1,.ii 1000000000] (.bool f4):=⟨_,rfl,by exact r_impl_in A hA d7 1 1000000000⟩
  refine cvw hc5 (.inr rfl) ?_
  refine rn hA 2 ?_
  refine ops_split 19 rfl (fun c6=> ?_) (fun c6=> ?_)
  ·
   have c7:f4=false:=bnot_t hA c6
   refine rz hA 5 ?_
   refine gc (fun c8=> ?_) (fun c8=> ?_)
   ·
    refine gx hA 1 ?_
    refine rt (gt ?_)
    refine congrArg PV.bool ?_
    try simp only[slen_eq hA,d5] at *
    subst f3
    have hI:itGo [] xs=false:=by
     rw[hE,it_at f2]
     subst hn
     try simp only[Int.toNat_natCast] at *
     simp[itmB,ec1,Int.not_lt.2 ec1,ec2,c7]
    subst hA
    simp[itemsOk,hI,std,ec1,Int.not_lt.2 ec1,ec2,c7]
   exact no_f c8 (show true=true from by rfl)
  have c9:f4=true:=bnot_f hA c6
  refine rn hA 2 ?_
  obtain⟨e9,f7,i6⟩:∃(e9:Bool),e9=(recOk (⟨d0,b9,d3,c4,b8,c0,d1,c3⟩:GRec))∧Real Tryz.prog 98 [.agg [.ii d0,.ii b9,.ii d3,.ii c4,.ii b8,.str c0,.str d1,.str c3]] (.bool e9):=⟨_,rfl,by exact r_impl_RecOk A hA (⟨d0,b9,d3,c4,b8,c0,d1,c3⟩:GRec) zR⟩
  refine ops_callG rfl rfl rfl rfl (by cbv) (by cbv) i6 (.inr rfl) (by cbv) ?_
  refine rz hA 2 ?_
  refine gc (fun c12=> ?_) (fun c12=> ?_)
  ·
   have c13:e9=false:=bnot_t hA c12
   refine gx hA 1 ?_
   refine rt (gt ?_)
   refine congrArg PV.bool ?_
   try simp only[slen_eq hA,d5] at *
   subst f7 f3
   have hI:itGo [] xs=false:=by
    rw[hE,it_at f2]
    subst hn
    try simp only[Int.toNat_natCast] at *
    simp[itmB,ec1,Int.not_lt.2 ec1,ec2,c9,c13]
   subst hA
   simp[itemsOk,hI,std,ec1,Int.not_lt.2 ec1,ec2,c9,c13]
  have c14:e9=true:=bnot_f hA c12
  refine gk (gs (gr (rn hA 2 ?_)))
  obtain⟨u15,i2⟩:=nm ((List.drop (Int.toNat 0) b1).take (Int.toNat n - Int.toNat 0):RR)
  have g9:u15=List.map eItem (List.take (Int.toNat n) xs):=by rw[i2,d4];exact(List.map_take ..).symm
  have i0:=rlen_map hA g9
  refine ops_step rfl rfl (slc_sl rfl rfl rfl rfl rfl rfl (by decide) (by omega) (by rw[d4,List.length_map];omega) rfl i2) ?_
  refine rn hA 1 ?_
  obtain⟨g1,g2,i7⟩:∃(g1:Bool),g1=(List.any (List.take (Int.toNat n) xs) (clash (⟨d7,⟨d0,b9,d3,c4,b8,c0,d1,c3⟩⟩:GItem)))∧Real Tryz.prog 99 [.sl 9 u15,.fn 100 [.rd [.ii d7,.ii d0,.ii b9,.ii d3,.ii c4,.ii b8,.str c0,.str d1,.str c3]]] (.bool g1):=⟨_,rfl,by subst g9;exact r_ContainsFunc_clash A hA (List.take (Int.toNat n) xs) (by first | omega | (rw [List.length_take];omega)) d7 d0 b9 d3 c4 b8 c0 d1 c3⟩
  refine cvw i7 (.inl trivial) ?_
  refine od ?_
  refine gc (fun c18=> ?_) (fun c18=> ?_)
  ·
   refine gx hA 1 ?_
   refine rt (gt ?_)
   refine congrArg PV.bool ?_
   try simp only[slen_eq hA,d5,i0] at *
   subst g2 f7 f3
   have hI:itGo [] xs=false:=by
    rw[hE,it_at f2]
    subst hn
    try simp only[Int.toNat_natCast] at *
    simp[itmB,ec1,Int.not_lt.2 ec1,ec2,c9,c14,c18]
   subst hA
   simp[itemsOk,hI,std,ec1,Int.not_lt.2 ec1,ec2,c9,c14,c18]
  refine gk (gy hA 2 ?_)
  refine⟨(S69_1 b1 (A.rlen b1) (A.num .add .i64 n 1)),List.length xs - (i+1),?_,by cbv,i+1,(A.num .add .i64 n 1),rfl,?_,rfl⟩
  ·
   omega
  try simp only[slen_eq hA,d5,i0] at *
  subst g2 f7 f3
  refine⟨by rw[add_i64 hA (by omega) (by omega)];omega,by omega,?_⟩
  rw[hE,it_at f2]
  subst hn
  try simp only[Int.toNat_natCast] at *
  simp[itmB,ec1,Int.not_lt.2 ec1,ec2,c9,c14,c18]
 have ec2:(A.rlen b1)≤n:=lss_f hA c2
 refine go_exit ⟨fun _=> ?_,fun h=>absurd rfl h⟩
 refine gx hA 1 ?_
 refine rt (gt ?_)
 refine congrArg PV.bool ?_
 try simp only[slen_eq hA,d5] at *
 have hI:itGo [] xs=true:=by rw[hE,it_end (by omega)]
 subst hA
 simp[itemsOk,hI,std,ec1,Int.not_lt.2 ec1,ec2,Int.not_lt.2 ec2]
def S54_1 (p0:RR)(p1:Int):St:={sl:=[.sl 9 p0,.bad,.bad,.ii p1,.bad,.bad,.bad,.bad,.bad,.bad,.bad,.bad,.bad,.bad,.bad,.bad,.bad,.bad,.bad,.bad,.bad,.bad,.bad,.bad,.bad,.bad,.bad,.bad,.bad,.bad,.bad,.bad,.bad,.bad,.bad,.bad,.bad,.bad,.bad,.bad,.bad,.bad,.bad,.bad,.bad,.bad,.bad,.bad,.bad,.bad,.bad,.bad,.bad,.bad,.bad,.bad,.bad],bl:=[]}
def S54_2 (p0:RR)(p1:Int)(p2:Int)(p3:Int)(p4:Int)(p5:Int)(p6:Int)(p7:Int)(p8:Int)(p9:ByteArray)(p10:ByteArray)(p11:ByteArray)(p12:Bool)(p13:Bool):St:={sl:=[.sl 9 p0,.bad,.bad,.ii p1,.ii p2,.bad,.bad,.bad,.bad,.bad,.bad,.bad,.bad,.bad,.bad,.bad,.bad,.bad,.bad,.sl 9 p0,.ii p1,.rd [.ii p3,.ii p4,.ii p5,.ii p6,.ii p7,.ii p8,.str p9,.str p10,.str p11],.rd [.ii p4,.ii p5,.ii p6,.ii p7,.ii p8,.str p9,.str p10,.str p11],.agg [.ii p4,.ii p5,.ii p6,.ii p7,.ii p8,.str p9,.str p10,.str p11],.bool p12,.bool p13,.bad,.bad,.bad,.bad,.bad,.bad,.bad,.bad,.bad,.bad,.bad,.bad,.bad,.bad,.bad,.bad,.bad,.bad,.bad,.bad,.bad,.bad,.bad,.bad,.bad,.bad,.bad,.bad,.bad,.bad,.bad],bl:=[]}
theorem r_spec_ItemsOk (A:Alg)(hA:A=std)(xs:List GItem)(hz:∀ q∈zsItemS xs,(q:Int)≤4611686018427387904):Real Tryz.prog 54 [.sl 9 (List.map eItem xs)] (.bool (itemsOk xs)):=by
 obtain⟨b1,d4⟩:=nm (xs.map eItem)
 have d5:=rlen_map hA d4
 refine real_args (args':=[.sl 9 b1]) (by subst d4;rfl) ?_
 have hx:(List.length xs:Int)≤4611686018427387904:=hz _ (List.mem_cons_self ..)
 refine real tyOk Tryz.func54 (by kernel_rfl) (afun_of rfl ?_)
 refine gx hA 1 ?_
 refine gs (gx hA 1 ?_)
 refine go_block ?_
 refine go_loopE (fun σ m=>∃(i:Nat) (n:Int),σ=(S54_1 b1 n)∧(n=(i:Int)∧i≤List.length xs∧itGo [] xs=itGo (xs.take i) (xs.drop i))∧m=List.length xs - i) _ [] [0,3] [] (S54_1 b1 0) rfl (by cbv) ⟨0,0,rfl,?_,rfl⟩ (fun σ m hI=> ?_)
 ·
  exact⟨rfl,Nat.zero_le _,rfl⟩
 obtain⟨i,n,rfl,⟨hn,hi,hE⟩,rfl⟩:=hI
 refine gs (gx hA 4 ?_)
 refine gc (fun c1=> ?_) (fun c1=> ?_)
 ·
  have ec1:n < (A.rlen b1):=lss_t hA c1
  refine gk (gs ?_)
  refine go_block ?_
  refine gs (gs (gr (rn hA 2 ?_)))
  have f5:(0:Int)≤n:=by
   omega
  have g5:(Int.toNat n) < List.length xs:=by
   omega
  obtain⟨x2,hx2⟩:∃ x,(xs)[(Int.toNat n)]? =some x:=⟨_,List.getElem?_eq_getElem g5⟩
  have i1:=List.mem_of_getElem? hx2
  obtain⟨a8,⟨a3,a0,a7,a4,a1,a6,a2,a5⟩⟩:=x2
  have f8:b1[(Int.toNat n)]? =some [.ii a8,.ii a3,.ii a0,.ii a7,.ii a4,.ii a1,.str a6,.str a2,.str a5]:=by
   exact map_at eItem d4 hx2
  have d8:=hx2
  rw[hn] at d8
  have d8:(xs)[i]? =some (⟨a8,⟨a3,a0,a7,a4,a1,a6,a2,a5⟩⟩:GItem):=d8
  have zR:∀ q∈zsRec (GItem.Rec (⟨a8,⟨a3,a0,a7,a4,a1,a6,a2,a5⟩⟩:GItem)),(q:Int)≤4611686018427387904:=fun q hq=>hz q (List.mem_cons_of_mem _ (List.mem_flatMap.2 ⟨_,i1,by simp only[zsItem,List.mem_append];exact .inl hq⟩))
  refine ops_step rfl rfl (idx_sl rfl rfl rfl rfl rfl f5 rfl f8) ?_
  refine rn hA 2 ?_
  obtain⟨e6,e7,hc4⟩:∃(e6:Bool),e6=(inR a8 1 1000000000)∧Real Tryz.prog 86 [.ii a8,.ii 1,.ii 1000000000] (.bool e6):=⟨_,rfl,by exact r_spec_l01In A hA a8 1 1000000000⟩
  refine cvw hc4 (.inr rfl) ?_
  refine rn hA 2 ?_
  refine ops_split 18 rfl (fun c5=> ?_) (fun c5=> ?_)
  ·
   have c6:e6=false:=bnot_t hA c5
   refine rz hA 8 ?_
   refine gc (fun c7=> ?_) (fun c7=> ?_)
   ·
    refine gx hA 1 ?_
    refine rt (gt ?_)
    refine congrArg PV.bool ?_
    try simp only[slen_eq hA,d5] at *
    subst e7
    have hI:itGo [] xs=false:=by
     rw[hE,it_at d8]
     simp[itmB,ec1,c6]
    subst hA
    simp[itemsOk,hI,std,ec1,c6]
   exact no_f c7 (show true=true from by rfl)
  have c8:e6=true:=bnot_f hA c5
  refine rn hA 2 ?_
  refine ops_stepG rfl rfl rfl rfl (idx_sl rfl rfl rfl rfl rfl f5 rfl f8) ?_
  refine rn hA 2 ?_
  obtain⟨d6,g0,j1⟩:∃(d6:Bool),d6=(recOk (⟨a3,a0,a7,a4,a1,a6,a2,a5⟩:GRec))∧Real Tryz.prog 87 [.agg [.ii a3,.ii a0,.ii a7,.ii a4,.ii a1,.str a6,.str a2,.str a5]] (.bool d6):=⟨_,rfl,by exact r_spec_RecOk A hA (⟨a3,a0,a7,a4,a1,a6,a2,a5⟩:GRec) zR⟩
  refine ops_callG rfl rfl rfl rfl (by cbv) (by cbv) j1 (.inr rfl) (by cbv) ?_
  refine rz hA 2 ?_
  refine gc (fun c11=> ?_) (fun c11=> ?_)
  ·
   have c12:d6=false:=bnot_t hA c11
   refine gx hA 1 ?_
   refine rt (gt ?_)
   refine congrArg PV.bool ?_
   try simp only[slen_eq hA,d5] at *
   subst g0 e7
   have hI:itGo [] xs=false:=by
    rw[hE,it_at d8]
    simp[itmB,ec1,c8,c12]
   subst hA
   simp[itemsOk,hI,std,ec1,c8,c12]
  have c13:d6=true:=bnot_f hA c11
  refine gk (gx hA 1 ?_)
  refine go_block ?_
  refine go_loopE (fun σ m=>∃(k:Nat) (n2:Int),σ=(S54_2 b1 n n2 a8 a3 a0 a7 a4 a1 a6 a2 a5 d6 (A.bnot d6))∧(n2=(k:Int)∧k≤i∧List.any (List.take i xs) (clash (⟨a8,⟨a3,a0,a7,a4,a1,a6,a2,a5⟩⟩:GItem))=List.any (List.drop k (List.take i xs)) (clash (⟨a8,⟨a3,a0,a7,a4,a1,a6,a2,a5⟩⟩:GItem)))∧m=i - k) _ [] [0,3,4,19,20,21,22,23,24,25] [] (S54_2 b1 n 0 a8 a3 a0 a7 a4 a1 a6 a2 a5 d6 (A.bnot d6)) rfl (by cbv) ⟨0,0,rfl,?_,rfl⟩ (fun σ m hI=> ?_)
  ·
   exact⟨rfl,Nat.zero_le _,rfl⟩
  obtain⟨k,n2,rfl,⟨hk,hkl,hE2⟩,rfl⟩:=hI
  refine gs (gx hA 3 ?_)
  refine gc (fun c14=> ?_) (fun c14=> ?_)
  ·
   have f1:n2 < n:=lss_t hA c14
   refine gk (gs ?_)
   refine go_block ?_
   refine gs ?_
   refine go_draw [0,1,2,3,4,5,6,7,8,9,10,11,12,13,14,15,16,17,18,19,20,21] (by cbv) ?_
   refine dn_ hA 2 ?_
   have g7:(0:Int)≤n2:=by
    omega
   have i3:(Int.toNat n2) < List.length xs:=by
    omega
   obtain⟨x15,g6⟩:∃ x,(xs)[(Int.toNat n2)]? =some x:=⟨_,List.getElem?_eq_getElem i3⟩
   have j2:=List.mem_of_getElem? g6
   obtain⟨d2,⟨b2,b0,b7,b5,a9,b3,b4,b6⟩⟩:=x15
   have g8:b1[(Int.toNat n2)]? =some [.ii d2,.ii b2,.ii b0,.ii b7,.ii b5,.ii a9,.str b3,.str b4,.str b6]:=by
    exact map_at eItem d4 g6
   have f9:=g6
   rw[hk] at f9
   have f9:(xs)[k]? =some (⟨d2,⟨b2,b0,b7,b5,a9,b3,b4,b6⟩⟩:GItem):=f9
   have g4:(List.take i xs)[k]? =some (⟨d2,⟨b2,b0,b7,b5,a9,b3,b4,b6⟩⟩:GItem):=by rw[List.getElem?_take,if_pos (by omega)];exact f9
   refine dops_step rfl rfl rfl (idx_sl rfl rfl rfl rfl rfl g7 rfl g8) ?_
   refine dn_ hA 4 ?_
   refine dops_step rfl rfl rfl (idx_sl rfl rfl rfl rfl rfl f5 rfl f8) ?_
   refine dn_ hA 4 ?_
   refine dops_split 43 rfl (fun c16=> ?_) (fun c16=> ?_)
   ·
    have f6:d2=a8:=eql_t hA c16
    refine dn_ hA 2 ?_
    refine dops_stepG rfl rfl rfl rfl rfl (idx_sl rfl rfl rfl rfl rfl g7 rfl g8) ?_
    refine dn_ hA 3 ?_
    refine dops_stepG rfl rfl rfl rfl rfl (idx_sl rfl rfl rfl rfl rfl f5 rfl f8) ?_
    refine dz hA 3 ?_
    refine gc (fun c17=> ?_) (fun c17=> ?_)
    ·
     have c18:(A.aeq [.ii d2,.ii b2,.ii b0,.ii b7,.ii b5,.ii a9,.str b3,.str b4,.str b6] [.ii a8,.ii a3,.ii a0,.ii a7,.ii a4,.ii a1,.str a6,.str a2,.str a5])=false:=bnot_t hA c17
     have j4:([.ii d2,.ii b2,.ii b0,.ii b7,.ii b5,.ii a9,.str b3,.str b4,.str b6]:List PV)≠[.ii a8,.ii a3,.ii a0,.ii a7,.ii a4,.ii a1,.str a6,.str a2,.str a5]:=aeq_f hA (by rfl) c18
     refine gx hA 1 ?_
     refine rt (gt ?_)
     show _=(PV.bool false)
     have hq:pvEqL (eItem (⟨d2,⟨b2,b0,b7,b5,a9,b3,b4,b6⟩⟩:GItem)) (eItem (⟨a8,⟨a3,a0,a7,a4,a1,a6,a2,a5⟩⟩:GItem))=false:=by subst hA;exact c18
     have hcl:clash (⟨a8,⟨a3,a0,a7,a4,a1,a6,a2,a5⟩⟩:GItem) (⟨d2,⟨b2,b0,b7,b5,a9,b3,b4,b6⟩⟩:GItem)=true:=by
      unfold clash
      rw[hq]
      simp[ec1,c8,c13,f1,f6,c18]
     refine congrArg PV.bool ?_
     try simp only[slen_eq hA,d5] at *
     subst g0 e7
     have hy:(List.take i xs).any (clash (⟨a8,⟨a3,a0,a7,a4,a1,a6,a2,a5⟩⟩:GItem))=true:=by
      rw[hE2,any_at g4,hcl]
      rfl
     have hI:itGo [] xs=false:=by
      rw[hE,it_at d8]
      simp[hy]
     subst hA
     simp[itemsOk,hI,std,ec1,c8,c13,f1,f6,c18]
    have c19:(A.aeq [.ii d2,.ii b2,.ii b0,.ii b7,.ii b5,.ii a9,.str b3,.str b4,.str b6] [.ii a8,.ii a3,.ii a0,.ii a7,.ii a4,.ii a1,.str a6,.str a2,.str a5])=true:=bnot_f hA c17
    have j3:([.ii d2,.ii b2,.ii b0,.ii b7,.ii b5,.ii a9,.str b3,.str b4,.str b6]:List PV)=[.ii a8,.ii a3,.ii a0,.ii a7,.ii a4,.ii a1,.str a6,.str a2,.str a5]:=aeq_t hA (by rfl) c19
    refine gk (gy hA 3 ?_)
    refine⟨(S54_2 b1 n (A.num .add .i64 n2 1) a8 a3 a0 a7 a4 a1 a6 a2 a5 d6 (A.bnot d6)),i - (k+1),?_,by cbv,k+1,(A.num .add .i64 n2 1),rfl,?_,rfl⟩
    ·
     omega
    have hq:pvEqL (eItem (⟨d2,⟨b2,b0,b7,b5,a9,b3,b4,b6⟩⟩:GItem)) (eItem (⟨a8,⟨a3,a0,a7,a4,a1,a6,a2,a5⟩⟩:GItem))=true:=by subst hA;exact c19
    have hcl:clash (⟨a8,⟨a3,a0,a7,a4,a1,a6,a2,a5⟩⟩:GItem) (⟨d2,⟨b2,b0,b7,b5,a9,b3,b4,b6⟩⟩:GItem)=false:=by
     unfold clash
     rw[hq]
     simp[ec1,c8,c13,f1,f6,c19]
    refine⟨by rw[add_i64 hA (by omega) (by omega)];omega,by omega,?_⟩
    rw[hE2,any_at g4,hcl]
    rfl
   have f6:d2≠a8:=eql_f hA c16
   refine dz hA 10 ?_
   refine gc (fun c20=> ?_) (fun c20=> ?_)
   ·
    exact no_t c20 (show false=false from by rfl)
   refine gk (gy hA 3 ?_)
   refine⟨(S54_2 b1 n (A.num .add .i64 n2 1) a8 a3 a0 a7 a4 a1 a6 a2 a5 d6 (A.bnot d6)),i - (k+1),?_,by cbv,k+1,(A.num .add .i64 n2 1),rfl,?_,rfl⟩
   ·
    omega
   have hcl:clash (⟨a8,⟨a3,a0,a7,a4,a1,a6,a2,a5⟩⟩:GItem) (⟨d2,⟨b2,b0,b7,b5,a9,b3,b4,b6⟩⟩:GItem)=false:=by
    unfold clash
    simp[ec1,c8,c13,f1,f6,f6.symm]
   refine⟨by rw[add_i64 hA (by omega) (by omega)];omega,by omega,?_⟩
   rw[hE2,any_at g4,hcl]
   rfl
  have f1:n≤n2:=lss_f hA c14
  refine go_exit ⟨fun _=> ?_,fun h=>absurd rfl h⟩
  refine gy hA 3 ?_
  refine⟨(S54_1 b1 (A.num .add .i64 n 1)),List.length xs - (i+1),?_,by cbv,i+1,(A.num .add .i64 n 1),rfl,?_,rfl⟩
  ·
   omega
  have hy:(List.take i xs).any (clash (⟨a8,⟨a3,a0,a7,a4,a1,a6,a2,a5⟩⟩:GItem))=false:=by rw[hE2,List.drop_of_length_le (by rw[List.length_take];omega)];rfl
  try simp only[slen_eq hA,d5] at *
  subst g0 e7
  refine⟨by rw[add_i64 hA (by omega) (by omega)];omega,by omega,?_⟩
  rw[hE,it_at d8]
  simp[itmB,hy,ec1,c8,c13,f1,Int.not_lt.2 f1]
 have ec1:(A.rlen b1)≤n:=lss_f hA c1
 refine go_exit ⟨fun _=> ?_,fun h=>absurd rfl h⟩
 refine gx hA 4 ?_
 refine rt (gt ?_)
 show _=(PV.bool (A.cmp .leq (A.rlen b1) 200))
 refine congrArg PV.bool ?_
 try simp only[slen_eq hA,d5] at *
 have hI:itGo [] xs=true:=by rw[hE,it_end (by omega)]
 subst hA
 simp[itemsOk,hI,std,ec1,Int.not_lt.2 ec1]
end Go.Av
