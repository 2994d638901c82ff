/- Walks: which items are needed. -/
import Derived.Test.YtjbokkoiicoahaaGreatDoorJ7
import Derived.Test.YtjbokkoiicoahaaGreatDoorJ9
import Derived.Test.YtjbokkoiicoahaaGreatDoorNd
namespace Go.Av
open Go Go.Proofs
set_option maxRecDepth 100000
set_option maxHeartbeats 4000000
set_option linter.unusedVariables false
set_option linter.unusedSimpArgs false
def S40_1 (p0:RR)(p1:Int)(p2:Int)(p3:RR):St:={sl:=[.bad,.bad,.bad,.own 6,.bad,.bad,.bad,.bad,.sl 4 p0,.ii p1,.ii p2,.bad,.bad,.bad,.bad,.bad,.bad,.bad,.bad,.bad],bl:=[(6,⟨.arr,9,p3⟩)]}
theorem r_impl_ItemsOf (A:Alg)(hA:A=std)(x:GLog)(hz:∀ q∈zsLog x,q≤1048576)(hil:(itemsL x.Used).length≤1048576):Real Tryz.prog 40 [.agg (eLog x)] (.ow 9 (List.map eoItem (itemsL x.Used))):=by
 obtain⟨⟨a8,b1⟩,e3,a3,d4,d5,e0,c7⟩:=x
 obtain⟨b3,b8⟩:=nm (a8.map eString)
 have f3:=rlen_map hA b8
 obtain⟨c3,c4⟩:=nm (b1.map eWrite)
 have f6:=rlen_map hA c4
 obtain⟨a5,c9⟩:=nm (a3.map eSeg)
 have g6:=rlen_map hA c9
 refine real_args (args':=[.agg [.sl 1 b3,.sl 2 c3,.ii e3,.sl 4 a5,.ii d4,.ii d5,.ii e0,.ii c7]]) (by subst b8 c4 c9;rfl) ?_
 have e4:∀ q∈zsDisk (⟨a8,b1⟩:GDisk),q≤1048576:=fun q hq=>hz q (by simp only[zsLog,List.mem_append];simp only[hq,true_or,or_true])
 have d7:∀ q∈zsStringS a8,q≤1048576:=fun q hq=>e4 q (by simp only[zsDisk,List.mem_append];simp only[hq,true_or,or_true])
 have f7:List.length a8≤1048576:=d7 _ (by simp[zsStringS])
 have d9:∀ q∈zsWriteS b1,q≤1048576:=fun q hq=>e4 q (by simp only[zsDisk,List.mem_append];simp only[hq,true_or,or_true])
 have g1:List.length b1≤1048576:=d9 _ (by simp[zsWriteS])
 have f9:∀ q∈zsSegS a3,q≤1048576:=fun q hq=>hz q (by simp only[zsLog,List.mem_append];simp only[hq,true_or,or_true])
 have i1:List.length a3≤1048576:=f9 _ (by simp[zsSegS])
 have hil:(itemsL a3).length≤1048576:=hil
 refine real tyOk Tryz.func40 (by kernel_rfl) (afun_of rfl ?_)
 refine gx hA 2 ?_
 refine gx hA 2 ?_
 refine gs (gx hA 4 ?_)
 refine go_block ?_
 refine go_loopE (fun σ m=>∃(i:Nat) (n:Int) (R:RR),σ=(S40_1 a5 (A.rlen a5) n R)∧(n=(i:Int)∧i≤List.length a3∧R=List.map eoItem (itemsL (a3.take i)))∧m=List.length a3 - i) _ [.up 6,.up 1] [3,8,9,10] [6] (S40_1 a5 (A.rlen a5) 0 ([])) rfl (by cbv) ⟨0,0,[],rfl,?_,rfl⟩ (fun σ m hI=> ?_)
 ·
  exact⟨rfl,Nat.zero_le _,rfl⟩
 obtain⟨i,n,R,rfl,⟨hn,hi,hR⟩,rfl⟩:=hI
 refine gx hA 1 ?_
 refine gs ?_
 refine gc (fun c1=> ?_) (fun c1=> ?_)
 ·
  have ec1:n < (A.rlen a5):=lss_t hA c1
  refine gk (gs ?_)
  refine go_block ?_
  refine gs (gr ?_)
  have g8:(0:Int)≤n:=by
   omega
  have g7:(Int.toNat n) < List.length a3:=by
   omega
  obtain⟨x2,hx2⟩:∃ x,(a3)[(Int.toNat n)]? =some x:=⟨_,List.getElem?_eq_getElem g7⟩
  have i3:=List.mem_of_getElem? hx2
  obtain⟨f8,f0,f2,c6⟩:=x2
  obtain⟨b9,b4⟩:=nm (c6.map eItem)
  have g3:=rlen_map hA b4
  have i0:a5[(Int.toNat n)]? =some [.ii f8,.ii f0,.ii f2,.sl 9 b9]:=by
   subst b4;exact map_at eSeg c9 hx2
  have e1:=hx2
  rw[hn] at e1
  have e1:(a3)[i]? =some (⟨f8,f0,f2,c6⟩:GSeg):=e1
  refine ops_step rfl rfl (idx_sl rfl rfl rfl rfl rfl g8 rfl i0) ?_
  refine rz hA 3 ?_
  refine gr (rn hA 3 ?_)
  obtain⟨r3,hr3⟩:=nm (R++b9:RR)
  have er3:r3=List.map eoItem ((itemsL (a3.take i))++c6):=by rw[hr3];exact app_eq hR b4
  have lr3:=rlen_map hA er3
  refine ops_step rfl rfl (app_own rfl rfl rfl rfl rfl rfl rfl rfl hr3 (by cbv) (by cbv) (by cbv) rfl (by
   show(List.length R+List.length b9) * _≤_
   have h1:=itemsL_le a3 (i+1)
   rw[itemsL_at e1,List.length_append] at h1
   have h1:(itemsL (a3.take i)).length+List.length c6≤(itemsL a3).length:=h1
   show(List.length R+List.length b9) * 96≤_
   rw[hR,b4,List.length_map,List.length_map];omega) (by decide) (by decide)) ?_
  refine rz hA 1 ?_
  refine gy hA 2 ?_
  refine⟨(S40_1 a5 (A.rlen a5) (A.num .add .i64 n 1) r3),List.length a3 - (i+1),?_,by cbv,i+1,(A.num .add .i64 n 1),r3,rfl,?_,rfl⟩
  ·
   omega
  refine⟨by rw[add_i64 hA (by omega) (by omega)];omega,by omega,?_⟩
  rw[itemsL_at e1]
  exact er3
 have ec1:(A.rlen a5)≤n:=lss_f hA c1
 refine go_exit ⟨fun _=> ?_,fun h=>absurd rfl h⟩
 refine gx hA 2 ?_
 refine rt (gt ?_)
 refine congrArg (PV.ow 9) ?_
 rw[hR,List.take_of_length_le (by omega)]
def S30_1 (p0:Int)(p1:RR)(p2:RR)(p3:Int)(p4:RR)(p5:Int)(p6:Int)(p7:Int)(p8:Int)(p9:RR):St:={sl:=[.bad,.pt 1 0 0,.bad,.own 5,.ii p0,.bad,.bad,.bad,.bad,.bad,.bad,.bad,.bad,.bad,.bad,.bad,.bad,.bad,.bad,.bad,.bad,.bad],bl:=[(1,⟨.var,8,[[.sl 1 p1,.sl 2 p2,.ii p3,.sl 4 p4,.ii p5,.ii p6,.ii p7,.ii p8]]⟩),(5,⟨.arr,9,p9⟩)]}
theorem r_spec_ItemsOf (A:Alg)(hA:A=std)(x:GLog)(hz:∀ q∈zsLog x,q≤1048576)(hil:(itemsL x.Used).length≤1048576):Real Tryz.prog 30 [.agg (eLog x)] (.ow 9 (List.map eoItem (itemsL x.Used))):=by
 obtain⟨⟨a8,b1⟩,e3,a3,d4,d5,e0,c7⟩:=x
 obtain⟨b3,b8⟩:=nm (a8.map eString)
 have f3:=rlen_map hA b8
 obtain⟨c3,c4⟩:=nm (b1.map eWrite)
 have f6:=rlen_map hA c4
 obtain⟨a5,c9⟩:=nm (a3.map eSeg)
 have g6:=rlen_map hA c9
 refine real_args (args':=[.agg [.sl 1 b3,.sl 2 c3,.ii e3,.sl 4 a5,.ii d4,.ii d5,.ii e0,.ii c7]]) (by subst b8 c4 c9;rfl) ?_
 have e4:∀ q∈zsDisk (⟨a8,b1⟩:GDisk),q≤1048576:=fun q hq=>hz q (by simp only[zsLog,List.mem_append];simp only[hq,true_or,or_true])
 have d7:∀ q∈zsStringS a8,q≤1048576:=fun q hq=>e4 q (by simp only[zsDisk,List.mem_append];simp only[hq,true_or,or_true])
 have f7:List.length a8≤1048576:=d7 _ (by simp[zsStringS])
 have d9:∀ q∈zsWriteS b1,q≤1048576:=fun q hq=>e4 q (by simp only[zsDisk,List.mem_append];simp only[hq,true_or,or_true])
 have g1:List.length b1≤1048576:=d9 _ (by simp[zsWriteS])
 have f9:∀ q∈zsSegS a3,q≤1048576:=fun q hq=>hz q (by simp only[zsLog,List.mem_append];simp only[hq,true_or,or_true])
 have i1:List.length a3≤1048576:=f9 _ (by simp[zsSegS])
 have hil:(itemsL a3).length≤1048576:=hil
 refine real tyOk Tryz.func30 (by kernel_rfl) (afun_of rfl ?_)
 refine gx hA 2 ?_
 refine gx hA 2 ?_
 refine gs (gx hA 1 ?_)
 refine go_block ?_
 refine go_loopE (fun σ m=>∃(i:Nat) (n:Int) (R:RR),σ=(S30_1 n b3 c3 e3 a5 d4 d5 e0 c7 R)∧(n=(i:Int)∧i≤List.length a3∧R=List.map eoItem (itemsL (a3.take i)))∧m=List.length a3 - i) _ [.up 5,.up 1] [1,3,4] [1,5] (S30_1 0 b3 c3 e3 a5 d4 d5 e0 c7 ([])) rfl (by cbv) ⟨0,0,[],rfl,?_,rfl⟩ (fun σ m hI=> ?_)
 ·
  exact⟨rfl,Nat.zero_le _,rfl⟩
 obtain⟨i,n,R,rfl,⟨hn,hi,hR⟩,rfl⟩:=hI
 refine gs (gx hA 5 ?_)
 refine gc (fun c1=> ?_) (fun c1=> ?_)
 ·
  have ec1:n < (A.rlen a5):=lss_t hA c1
  refine gk (gs ?_)
  refine go_block ?_
  refine gr (rn hA 4 ?_)
  have g8:(0:Int)≤n:=by
   omega
  have g7:(Int.toNat n) < List.length a3:=by
   omega
  obtain⟨x2,hx2⟩:∃ x,(a3)[(Int.toNat n)]? =some x:=⟨_,List.getElem?_eq_getElem g7⟩
  have i3:=List.mem_of_getElem? hx2
  obtain⟨f8,f0,f2,c6⟩:=x2
  obtain⟨b9,b4⟩:=nm (c6.map eItem)
  have g3:=rlen_map hA b4
  have i0:a5[(Int.toNat n)]? =some [.ii f8,.ii f0,.ii f2,.sl 9 b9]:=by
   subst b4;exact map_at eSeg c9 hx2
  have e1:=hx2
  rw[hn] at e1
  have e1:(a3)[i]? =some (⟨f8,f0,f2,c6⟩:GSeg):=e1
  refine ops_step rfl rfl (idx_sl rfl rfl rfl rfl rfl g8 rfl i0) ?_
  refine rn hA 2 ?_
  obtain⟨r3,hr3⟩:=nm (R++b9:RR)
  have er3:r3=List.map eoItem ((itemsL (a3.take i))++c6):=by rw[hr3];exact app_eq hR b4
  have lr3:=rlen_map hA er3
  refine ops_step rfl rfl (app_own rfl rfl rfl rfl rfl rfl rfl rfl hr3 (by cbv) (by cbv) (by cbv) rfl (by
   show(List.length R+List.length b9) * _≤_
   have h1:=itemsL_le a3 (i+1)
   rw[itemsL_at e1,List.length_append] at h1
   have h1:(itemsL (a3.take i)).length+List.length c6≤(itemsL a3).length:=h1
   show(List.length R+List.length b9) * 96≤_
   rw[hR,b4,List.length_map,List.length_map];omega) (by decide) (by decide)) ?_
  refine rz hA 1 ?_
  refine gy hA 3 ?_
  refine⟨(S30_1 (A.num .add .i64 n 1) b3 c3 e3 a5 d4 d5 e0 c7 r3),List.length a3 - (i+1),?_,by cbv,i+1,(A.num .add .i64 n 1),r3,rfl,?_,rfl⟩
  ·
   omega
  refine⟨by rw[add_i64 hA (by omega) (by omega)];omega,by omega,?_⟩
  rw[itemsL_at e1]
  exact er3
 have ec1:(A.rlen a5)≤n:=lss_f hA c1
 refine go_exit ⟨fun _=> ?_,fun h=>absurd rfl h⟩
 refine gx hA 2 ?_
 refine rt (gt ?_)
 refine congrArg (PV.ow 9) ?_
 rw[hR,List.take_of_length_le (by omega)]
theorem r_impl_StateNow (A:Alg)(hA:A=std)(x:GStore)(hz:∀ q∈zsStore x,q≤1048576)(hil:(itemsL x.Log.Used).length≤1048576):Real Tryz.prog 21 [.agg (eStore x)] (.agg (eoState (stateS (itemsL x.Log.Used)))):=by
 obtain⟨⟨⟨a0,a1⟩,c0,a2,a9,b0,b5,a7⟩,d8⟩:=x
 obtain⟨b2,a4⟩:=nm (a0.map eString)
 have e2:=rlen_map hA a4
 obtain⟨b6,a6⟩:=nm (a1.map eWrite)
 have e8:=rlen_map hA a6
 obtain⟨d0,b7⟩:=nm (a2.map eSeg)
 have g0:=rlen_map hA b7
 obtain⟨f1,d6⟩:=nm (d8.map eInt)
 have g5:=rlen_map hA d6
 refine real_args (args':=[.agg [.sl 1 b2,.sl 2 b6,.ii c0,.sl 4 d0,.ii a9,.ii b0,.ii b5,.ii a7,.sl 1 f1]]) (by subst a4 a6 b7 d6;rfl) ?_
 have e9:∀ q∈zsLog (⟨⟨a0,a1⟩,c0,a2,a9,b0,b5,a7⟩:GLog),q≤1048576:=fun q hq=>hz q (by simp only[zsStore,List.mem_append];simp only[hq,true_or,or_true])
 have d2:∀ q∈zsDisk (⟨a0,a1⟩:GDisk),q≤1048576:=fun q hq=>e9 q (by simp only[zsLog,List.mem_append];simp only[hq,true_or,or_true])
 have c8:∀ q∈zsStringS a0,q≤1048576:=fun q hq=>d2 q (by simp only[zsDisk,List.mem_append];simp only[hq,true_or,or_true])
 have e7:List.length a0≤1048576:=c8 _ (by simp[zsStringS])
 have d1:∀ q∈zsWriteS a1,q≤1048576:=fun q hq=>d2 q (by simp only[zsDisk,List.mem_append];simp only[hq,true_or,or_true])
 have f4:List.length a1≤1048576:=d1 _ (by simp[zsWriteS])
 have d3:∀ q∈zsSegS a2,q≤1048576:=fun q hq=>e9 q (by simp only[zsLog,List.mem_append];simp only[hq,true_or,or_true])
 have g4:List.length a2≤1048576:=d3 _ (by simp[zsSegS])
 have f5:∀ q∈zsIntS d8,q≤1048576:=fun q hq=>hz q (by simp only[zsStore,List.mem_append];simp only[hq,true_or,or_true])
 have g9:List.length d8≤1048576:=f5 _ (by simp[zsIntS])
 have hil:(itemsL a2).length≤1048576:=hil
 have hzs:=zs_itemsL d3 hil
 refine real tyOk Tryz.func21 (by kernel_rfl) (afun_of rfl ?_)
 refine gx hA 2 ?_
 refine gs (gr (rn hA 2 ?_))
 obtain⟨e6,e5,hc2⟩:∃(e6:RR),e6=List.map eoItem (itemsL a2)∧Real Tryz.prog 40 [.agg [.sl 1 b2,.sl 2 b6,.ii c0,.sl 4 d0,.ii a9,.ii b0,.ii b5,.ii a7]] (.ow 9 e6):=⟨_,rfl,by subst a4 a6 b7;exact r_impl_ItemsOf A hA (⟨⟨a0,a1⟩,c0,a2,a9,b0,b5,a7⟩:GLog) (by assumption) hil⟩
 have i2:=rlen_map hA e5
 refine cvw hc2 (.inr rfl) ?_
 obtain⟨c2,c5,hc4⟩:∃(c2:RR),c2=List.map eoBox ((stateS (itemsL a2)).Boxes)∧Real Tryz.prog 39 [.sl 9 (eraseR e6)] (.agg [.ow 5 c2]):=⟨_,rfl,by subst e5;simp only[erR_Item];exact r_impl_StateOf A hA (itemsL a2) hzs⟩
 have g2:=rlen_map hA c5
 refine cvw hc4 (.inl (by simp only[fresh,freshL,c5,frR_Box,and_self])) ?_
 refine rz hA 1 ?_
 refine rt (gt ?_)
 show _=(PV.agg [.ow 5 c2])
 simp only[e5,c5]
 rfl
theorem r_spec_StateNow (A:Alg)(hA:A=std)(x:GStore)(hz:∀ q∈zsStore x,q≤1048576)(hil:(itemsL x.Log.Used).length≤1048576):Real Tryz.prog 14 [.agg (eStore x)] (.agg (eoState (stateS (itemsL x.Log.Used)))):=by
 obtain⟨⟨⟨a0,a1⟩,c0,a2,a9,b0,b5,a7⟩,d8⟩:=x
 obtain⟨b2,a4⟩:=nm (a0.map eString)
 have e2:=rlen_map hA a4
 obtain⟨b6,a6⟩:=nm (a1.map eWrite)
 have e8:=rlen_map hA a6
 obtain⟨d0,b7⟩:=nm (a2.map eSeg)
 have g0:=rlen_map hA b7
 obtain⟨f1,d6⟩:=nm (d8.map eInt)
 have g5:=rlen_map hA d6
 refine real_args (args':=[.agg [.sl 1 b2,.sl 2 b6,.ii c0,.sl 4 d0,.ii a9,.ii b0,.ii b5,.ii a7,.sl 1 f1]]) (by subst a4 a6 b7 d6;rfl) ?_
 have e9:∀ q∈zsLog (⟨⟨a0,a1⟩,c0,a2,a9,b0,b5,a7⟩:GLog),q≤1048576:=fun q hq=>hz q (by simp only[zsStore,List.mem_append];simp only[hq,true_or,or_true])
 have d2:∀ q∈zsDisk (⟨a0,a1⟩:GDisk),q≤1048576:=fun q hq=>e9 q (by simp only[zsLog,List.mem_append];simp only[hq,true_or,or_true])
 have c8:∀ q∈zsStringS a0,q≤1048576:=fun q hq=>d2 q (by simp only[zsDisk,List.mem_append];simp only[hq,true_or,or_true])
 have e7:List.length a0≤1048576:=c8 _ (by simp[zsStringS])
 have d1:∀ q∈zsWriteS a1,q≤1048576:=fun q hq=>d2 q (by simp only[zsDisk,List.mem_append];simp only[hq,true_or,or_true])
 have f4:List.length a1≤1048576:=d1 _ (by simp[zsWriteS])
 have d3:∀ q∈zsSegS a2,q≤1048576:=fun q hq=>e9 q (by simp only[zsLog,List.mem_append];simp only[hq,true_or,or_true])
 have g4:List.length a2≤1048576:=d3 _ (by simp[zsSegS])
 have f5:∀ q∈zsIntS d8,q≤1048576:=fun q hq=>hz q (by simp only[zsStore,List.mem_append];simp only[hq,true_or,or_true])
 have g9:List.length d8≤1048576:=f5 _ (by simp[zsIntS])
 have hil:(itemsL a2).length≤1048576:=hil
 have hzs:=zs_itemsL d3 hil
 refine real tyOk Tryz.func14 (by kernel_rfl) (afun_of rfl ?_)
 refine gx hA 2 ?_
 refine gs (gr (rn hA 2 ?_))
 obtain⟨e6,e5,hc2⟩:∃(e6:RR),e6=List.map eoItem (itemsL a2)∧Real Tryz.prog 30 [.agg [.sl 1 b2,.sl 2 b6,.ii c0,.sl 4 d0,.ii a9,.ii b0,.ii b5,.ii a7]] (.ow 9 e6):=⟨_,rfl,by subst a4 a6 b7;exact r_spec_ItemsOf A hA (⟨⟨a0,a1⟩,c0,a2,a9,b0,b5,a7⟩:GLog) (by assumption) hil⟩
 have i2:=rlen_map hA e5
 refine cvw hc2 (.inr rfl) ?_
 obtain⟨c2,c5,hc4⟩:∃(c2:RR),c2=List.map eoBox ((stateS (itemsL a2)).Boxes)∧Real Tryz.prog 29 [.sl 9 (eraseR e6)] (.agg [.ow 5 c2]):=⟨_,rfl,by subst e5;simp only[erR_Item];exact r_spec_StateOf A hA (itemsL a2) hzs⟩
 have g2:=rlen_map hA c5
 refine cvw hc4 (.inl (by simp only[fresh,freshL,c5,frR_Box,and_self])) ?_
 refine rz hA 1 ?_
 refine rt (gt ?_)
 show _=(PV.agg [.ow 5 c2])
 simp only[e5,c5]
 rfl
end Go.Av
namespace Go.Av
open Go Go.Proofs
set_option maxRecDepth 100000
set_option maxHeartbeats 4000000
set_option linter.unusedVariables false
set_option linter.unusedSimpArgs false
theorem r_seq (A:Alg)(hA:A=std)(y:GItem)(q0 q1 q2 q3 q4 q5:Int)(q6 q7 q8:ByteArray):Real Tryz.prog 151 [.agg (eItem y),.rd [.ii q0,.ii q1,.ii q2,.ii q3,.ii q4,.ii q5,.str q6,.str q7,.str q8]] (.bool (seqIs (⟨q0,⟨q1,q2,q3,q4,q5,q6,q7,q8⟩⟩:GItem) y)):=by
 obtain⟨B0,⟨l8,k5,t8,n6,m9,n5,n4,n8⟩⟩:=y
 refine real_args (args':=[.agg [.ii B0,.ii l8,.ii k5,.ii t8,.ii n6,.ii m9,.str n5,.str n4,.str n8],.rd [.ii q0,.ii q1,.ii q2,.ii q3,.ii q4,.ii q5,.str q6,.str q7,.str q8]]) (by rfl) ?_
 refine real tyOk Tryz.func151 (by kernel_rfl) (afun_of rfl ?_)
 refine gx hA 2 ?_
 refine gx hA 6 ?_
 refine rt (gt ?_)
 show _=(PV.bool (A.cmp .eql B0 q0))
 refine congrArg PV.bool ?_
 subst hA
 simp[seqIs,std,Bool.beq_eq_decide_eq,ieq_dec,bne,]
def Sr_IndexFunc_seq_1 (p0:RR)(p1:Int)(p2:Int)(p3:Int)(p4:Int)(p5:Int)(p6:Int)(p7:ByteArray)(p8:ByteArray)(p9:ByteArray)(p10:Int)(p11:Int):St:={sl:=[.sl 9 p0,.fn 151 [.rd [.ii p1,.ii p2,.ii p3,.ii p4,.ii p5,.ii p6,.str p7,.str p8,.str p9]],.bad,.bad,.bad,.bad,.bad,.ii p10,.ii p11,.bad,.bad,.bad,.bad,.bad,.bad,.bad,.bad,.bad,.bad],bl:=[]}
theorem r_IndexFunc_seq (A:Alg)(hA:A=std)(xs:List GItem)(hx:(List.length xs:Int)≤4611686018427387904)(q0 q1 q2 q3 q4 q5:Int)(q6 q7 q8:ByteArray):Real Tryz.prog 134 [.sl 9 (List.map eItem xs),.fn 151 [.rd [.ii q0,.ii q1,.ii q2,.ii q3,.ii q4,.ii q5,.str q6,.str q7,.str q8]]] (.ii (ixF (seqIs (⟨q0,⟨q1,q2,q3,q4,q5,q6,q7,q8⟩⟩:GItem)) xs 0)):=by
 obtain⟨a9,b1⟩:=nm (xs.map eItem)
 have B1:=rlen_map hA b1
 refine real_args (args':=[.sl 9 a9,.fn 151 [.rd [.ii q0,.ii q1,.ii q2,.ii q3,.ii q4,.ii q5,.str q6,.str q7,.str q8]]]) (by subst b1;rfl) ?_
 refine real tyOk Tryz.func134 (by kernel_rfl) (afun_of rfl ?_)
 refine gx hA 1 ?_
 refine gs (gx hA 3 ?_)
 refine go_block ?_
 refine go_loopE (fun σ m=>∃(i:Nat) (n:Int),σ=(Sr_IndexFunc_seq_1 a9 q0 q1 q2 q3 q4 q5 q6 q7 q8 (A.rlen a9) n)∧(n=(i:Int)∧i≤List.length xs∧ixF (seqIs (⟨q0,⟨q1,q2,q3,q4,q5,q6,q7,q8⟩⟩:GItem)) xs 0=ixF (seqIs (⟨q0,⟨q1,q2,q3,q4,q5,q6,q7,q8⟩⟩:GItem)) (xs.drop i) i)∧m=List.length xs - i) _ [] [0,1,7,8] [] (Sr_IndexFunc_seq_1 a9 q0 q1 q2 q3 q4 q5 q6 q7 q8 (A.rlen a9) 0) rfl (by cbv) ⟨0,0,rfl,?_,rfl⟩ (fun σ m hI=> ?_)
 ·
  exact⟨rfl,Nat.zero_le _,rfl⟩
 obtain⟨i,n,rfl,⟨hn,hi,hE⟩,rfl⟩:=hI
 refine gx hA 1 ?_
 refine gs ?_
 refine gc (fun c1=> ?_) (fun c1=> ?_)
 ·
  have ec1:n < (A.rlen a9):=lss_t hA c1
  refine gk (gs ?_)
  refine go_block ?_
  refine gx hA 2 ?_
  refine gs (gr (rn hA 3 ?_))
  have B7:(0:Int)≤n:=by
   omega
  have B6:(Int.toNat n) < List.length xs:=by
   omega
  obtain⟨x2,hx2⟩:∃ x,(xs)[(Int.toNat n)]? =some x:=⟨_,List.getElem?_eq_getElem B6⟩
  have D2:=List.mem_of_getElem? hx2
  obtain⟨i2,⟨b5,b2,b9,b6,b3,b8,b4,b7⟩⟩:=x2
  have B8:a9[(Int.toNat n)]? =some [.ii i2,.ii b5,.ii b2,.ii b9,.ii b6,.ii b3,.str b8,.str b4,.str b7]:=by
   exact map_at eItem b1 hx2
  have l9:=hx2
  rw[hn] at l9
  have l9:(xs)[i]? =some (⟨i2,⟨b5,b2,b9,b6,b3,b8,b4,b7⟩⟩:GItem):=l9
  refine ops_step rfl rfl (idx_sl rfl rfl rfl rfl rfl B7 rfl B8) ?_
  refine rn hA 1 ?_
  obtain⟨n9,t9,hc4⟩:∃(n9:Bool),n9=(seqIs (⟨q0,⟨q1,q2,q3,q4,q5,q6,q7,q8⟩⟩:GItem) (⟨i2,⟨b5,b2,b9,b6,b3,b8,b4,b7⟩⟩:GItem))∧Real Tryz.prog 151 [.agg [.ii i2,.ii b5,.ii b2,.ii b9,.ii b6,.ii b3,.str b8,.str b4,.str b7],.rd [.ii q0,.ii q1,.ii q2,.ii q3,.ii q4,.ii q5,.str q6,.str q7,.str q8]] (.bool n9):=⟨_,rfl,by exact r_seq A hA (⟨i2,⟨b5,b2,b9,b6,b3,b8,b4,b7⟩⟩:GItem) q0 q1 q2 q3 q4 q5 q6 q7 q8⟩
  refine cvw hc4 (.inr rfl) ?_
  refine od ?_
  refine gc (fun c5=> ?_) (fun c5=> ?_)
  ·
   refine gx hA 2 ?_
   refine rt (gt ?_)
   refine congrArg (PV.int .i64) ?_
   rw[hE,ix_at l9]
   subst t9
   simp[ec1,c5,hn]
  refine gk (gy hA 2 ?_)
  refine⟨(Sr_IndexFunc_seq_1 a9 q0 q1 q2 q3 q4 q5 q6 q7 q8 (A.rlen a9) (A.num .add .i64 n 1)),List.length xs - (i+1),?_,by cbv,i+1,(A.num .add .i64 n 1),rfl,?_,rfl⟩
  ·
   omega
  refine⟨by rw[add_i64 hA (by omega) (by omega)];omega,by omega,?_⟩
  rw[hE,ix_at l9]
  subst t9
  simp[ec1,c5]
 have ec1:(A.rlen a9)≤n:=lss_f hA c1
 refine go_exit ⟨fun _=> ?_,fun h=>absurd rfl h⟩
 refine gx hA 1 ?_
 refine rt (gt ?_)
 refine congrArg (PV.int .i64) ?_
 rw[hE];exact ix_end (by omega)
theorem r_ContainsFunc_seq (A:Alg)(hA:A=std)(xs:List GItem)(hx:(List.length xs:Int)≤4611686018427387904)(q0 q1 q2 q3 q4 q5:Int)(q6 q7 q8:ByteArray):Real Tryz.prog 99 [.sl 9 (List.map eItem xs),.fn 151 [.rd [.ii q0,.ii q1,.ii q2,.ii q3,.ii q4,.ii q5,.str q6,.str q7,.str q8]]] (.bool (List.any xs (seqIs (⟨q0,⟨q1,q2,q3,q4,q5,q6,q7,q8⟩⟩:GItem)))):=by
 obtain⟨a9,b1⟩:=nm (xs.map eItem)
 have B1:=rlen_map hA b1
 refine real_args (args':=[.sl 9 a9,.fn 151 [.rd [.ii q0,.ii q1,.ii q2,.ii q3,.ii q4,.ii q5,.str q6,.str q7,.str q8]]]) (by subst b1;rfl) ?_
 refine real tyOk Tryz.func99 (by kernel_rfl) (afun_of rfl ?_)
 refine gx hA 1 ?_
 refine gs (gr (rn hA 2 ?_))
 obtain⟨n3,B5,hc2⟩:∃(n3:Int),n3=(ixF (seqIs (⟨q0,⟨q1,q2,q3,q4,q5,q6,q7,q8⟩⟩:GItem)) xs 0)∧Real Tryz.prog 134 [.sl 9 a9,.fn 151 [.rd [.ii q0,.ii q1,.ii q2,.ii q3,.ii q4,.ii q5,.str q6,.str q7,.str q8]]] (.ii n3):=⟨_,rfl,by subst b1;exact r_IndexFunc_seq A hA xs (by first | omega | (rw [List.length_take];omega)) q0 q1 q2 q3 q4 q5 q6 q7 q8⟩
 refine cvw hc2 (.inr rfl) ?_
 refine rz hA 2 ?_
 refine rt (gt ?_)
 show _=(PV.bool (A.cmp .geq n3 0))
 refine congrArg PV.bool ?_
 rw[B5];exact(ix_any' hA _).symm
theorem r_oth (A:Alg)(hA:A=std)(y:GItem)(cq0 cq1 cq2 cq3 cq4:Int)(cq5 cq6 cq7:ByteArray):Real Tryz.prog 152 [.agg (eItem y),.rd [.ii cq0,.ii cq1,.ii cq2,.ii cq3,.ii cq4,.str cq5,.str cq6,.str cq7]] (.bool (othB (⟨cq0,cq1,cq2,cq3,cq4,cq5,cq6,cq7⟩:GRec) y)):=by
 obtain⟨B0,⟨l8,k5,t8,n6,m9,n5,n4,n8⟩⟩:=y
 refine real_args (args':=[.agg [.ii B0,.ii l8,.ii k5,.ii t8,.ii n6,.ii m9,.str n5,.str n4,.str n8],.rd [.ii cq0,.ii cq1,.ii cq2,.ii cq3,.ii cq4,.str cq5,.str cq6,.str cq7]]) (by rfl) ?_
 refine real tyOk Tryz.func152 (by kernel_rfl) (afun_of rfl ?_)
 refine gx hA 2 ?_
 refine gs (gr (rn hA 7 ?_))
 refine ops_split 10 rfl (fun c1=> ?_) (fun c1=> ?_)
 ·
  have ec1:k5=cq1:=eql_t hA c1
  refine rz hA 6 ?_
  refine rt (gt ?_)
  show _=(PV.bool (A.cmp .neq l8 2))
  refine congrArg PV.bool ?_
  subst hA
  simp[othB,std,Bool.beq_eq_decide_eq,ieq_dec,bne,ec1]
 have ec1:k5≠cq1:=eql_f hA c1
 refine rz hA 6 ?_
 refine rt (gt ?_)
 refine congrArg PV.bool ?_
 subst hA
 simp[othB,std,Bool.beq_eq_decide_eq,ieq_dec,bne,ec1,ec1.symm]
def Sr_IndexFunc_oth_1 (p0:RR)(p1:Int)(p2:Int)(p3:Int)(p4:Int)(p5:Int)(p6:ByteArray)(p7:ByteArray)(p8:ByteArray)(p9:Int)(p10:Int):St:={sl:=[.sl 9 p0,.fn 152 [.rd [.ii p1,.ii p2,.ii p3,.ii p4,.ii p5,.str p6,.str p7,.str p8]],.bad,.bad,.bad,.bad,.bad,.ii p9,.ii p10,.bad,.bad,.bad,.bad,.bad,.bad,.bad,.bad,.bad,.bad],bl:=[]}
theorem r_IndexFunc_oth (A:Alg)(hA:A=std)(xs:List GItem)(hx:(List.length xs:Int)≤4611686018427387904)(cq0 cq1 cq2 cq3 cq4:Int)(cq5 cq6 cq7:ByteArray):Real Tryz.prog 134 [.sl 9 (List.map eItem xs),.fn 152 [.rd [.ii cq0,.ii cq1,.ii cq2,.ii cq3,.ii cq4,.str cq5,.str cq6,.str cq7]]] (.ii (ixF (othB (⟨cq0,cq1,cq2,cq3,cq4,cq5,cq6,cq7⟩:GRec)) xs 0)):=by
 obtain⟨a9,b1⟩:=nm (xs.map eItem)
 have B1:=rlen_map hA b1
 refine real_args (args':=[.sl 9 a9,.fn 152 [.rd [.ii cq0,.ii cq1,.ii cq2,.ii cq3,.ii cq4,.str cq5,.str cq6,.str cq7]]]) (by subst b1;rfl) ?_
 refine real tyOk Tryz.func134 (by kernel_rfl) (afun_of rfl ?_)
 refine gx hA 1 ?_
 refine gs (gx hA 3 ?_)
 refine go_block ?_
 refine go_loopE (fun σ m=>∃(i:Nat) (n:Int),σ=(Sr_IndexFunc_oth_1 a9 cq0 cq1 cq2 cq3 cq4 cq5 cq6 cq7 (A.rlen a9) n)∧(n=(i:Int)∧i≤List.length xs∧ixF (othB (⟨cq0,cq1,cq2,cq3,cq4,cq5,cq6,cq7⟩:GRec)) xs 0=ixF (othB (⟨cq0,cq1,cq2,cq3,cq4,cq5,cq6,cq7⟩:GRec)) (xs.drop i) i)∧m=List.length xs - i) _ [] [0,1,7,8] [] (Sr_IndexFunc_oth_1 a9 cq0 cq1 cq2 cq3 cq4 cq5 cq6 cq7 (A.rlen a9) 0) rfl (by cbv) ⟨0,0,rfl,?_,rfl⟩ (fun σ m hI=> ?_)
 ·
  exact⟨rfl,Nat.zero_le _,rfl⟩
 obtain⟨i,n,rfl,⟨hn,hi,hE⟩,rfl⟩:=hI
 refine gx hA 1 ?_
 refine gs ?_
 refine gc (fun c1=> ?_) (fun c1=> ?_)
 ·
  have ec1:n < (A.rlen a9):=lss_t hA c1
  refine gk (gs ?_)
  refine go_block ?_
  refine gx hA 2 ?_
  refine gs (gr (rn hA 3 ?_))
  have B7:(0:Int)≤n:=by
   omega
  have B6:(Int.toNat n) < List.length xs:=by
   omega
  obtain⟨x2,hx2⟩:∃ x,(xs)[(Int.toNat n)]? =some x:=⟨_,List.getElem?_eq_getElem B6⟩
  have D2:=List.mem_of_getElem? hx2
  obtain⟨i2,⟨b5,b2,b9,b6,b3,b8,b4,b7⟩⟩:=x2
  have B8:a9[(Int.toNat n)]? =some [.ii i2,.ii b5,.ii b2,.ii b9,.ii b6,.ii b3,.str b8,.str b4,.str b7]:=by
   exact map_at eItem b1 hx2
  have l9:=hx2
  rw[hn] at l9
  have l9:(xs)[i]? =some (⟨i2,⟨b5,b2,b9,b6,b3,b8,b4,b7⟩⟩:GItem):=l9
  refine ops_step rfl rfl (idx_sl rfl rfl rfl rfl rfl B7 rfl B8) ?_
  refine rn hA 1 ?_
  obtain⟨n9,t9,hc4⟩:∃(n9:Bool),n9=(othB (⟨cq0,cq1,cq2,cq3,cq4,cq5,cq6,cq7⟩:GRec) (⟨i2,⟨b5,b2,b9,b6,b3,b8,b4,b7⟩⟩:GItem))∧Real Tryz.prog 152 [.agg [.ii i2,.ii b5,.ii b2,.ii b9,.ii b6,.ii b3,.str b8,.str b4,.str b7],.rd [.ii cq0,.ii cq1,.ii cq2,.ii cq3,.ii cq4,.str cq5,.str cq6,.str cq7]] (.bool n9):=⟨_,rfl,by exact r_oth A hA (⟨i2,⟨b5,b2,b9,b6,b3,b8,b4,b7⟩⟩:GItem) cq0 cq1 cq2 cq3 cq4 cq5 cq6 cq7⟩
  refine cvw hc4 (.inr rfl) ?_
  refine od ?_
  refine gc (fun c5=> ?_) (fun c5=> ?_)
  ·
   refine gx hA 2 ?_
   refine rt (gt ?_)
   refine congrArg (PV.int .i64) ?_
   rw[hE,ix_at l9]
   subst t9
   simp[ec1,c5,hn]
  refine gk (gy hA 2 ?_)
  refine⟨(Sr_IndexFunc_oth_1 a9 cq0 cq1 cq2 cq3 cq4 cq5 cq6 cq7 (A.rlen a9) (A.num .add .i64 n 1)),List.length xs - (i+1),?_,by cbv,i+1,(A.num .add .i64 n 1),rfl,?_,rfl⟩
  ·
   omega
  refine⟨by rw[add_i64 hA (by omega) (by omega)];omega,by omega,?_⟩
  rw[hE,ix_at l9]
  subst t9
  simp[ec1,c5]
 have ec1:(A.rlen a9)≤n:=lss_f hA c1
 refine go_exit ⟨fun _=> ?_,fun h=>absurd rfl h⟩
 refine gx hA 1 ?_
 refine rt (gt ?_)
 refine congrArg (PV.int .i64) ?_
 rw[hE];exact ix_end (by omega)
theorem r_ContainsFunc_oth (A:Alg)(hA:A=std)(xs:List GItem)(hx:(List.length xs:Int)≤4611686018427387904)(cq0 cq1 cq2 cq3 cq4:Int)(cq5 cq6 cq7:ByteArray):Real Tryz.prog 99 [.sl 9 (List.map eItem xs),.fn 152 [.rd [.ii cq0,.ii cq1,.ii cq2,.ii cq3,.ii cq4,.str cq5,.str cq6,.str cq7]]] (.bool (List.any xs (othB (⟨cq0,cq1,cq2,cq3,cq4,cq5,cq6,cq7⟩:GRec)))):=by
 obtain⟨a9,b1⟩:=nm (xs.map eItem)
 have B1:=rlen_map hA b1
 refine real_args (args':=[.sl 9 a9,.fn 152 [.rd [.ii cq0,.ii cq1,.ii cq2,.ii cq3,.ii cq4,.str cq5,.str cq6,.str cq7]]]) (by subst b1;rfl) ?_
 refine real tyOk Tryz.func99 (by kernel_rfl) (afun_of rfl ?_)
 refine gx hA 1 ?_
 refine gs (gr (rn hA 2 ?_))
 obtain⟨n3,B5,hc2⟩:∃(n3:Int),n3=(ixF (othB (⟨cq0,cq1,cq2,cq3,cq4,cq5,cq6,cq7⟩:GRec)) xs 0)∧Real Tryz.prog 134 [.sl 9 a9,.fn 152 [.rd [.ii cq0,.ii cq1,.ii cq2,.ii cq3,.ii cq4,.str cq5,.str cq6,.str cq7]]] (.ii n3):=⟨_,rfl,by subst b1;exact r_IndexFunc_oth A hA xs (by first | omega | (rw [List.length_take];omega)) cq0 cq1 cq2 cq3 cq4 cq5 cq6 cq7⟩
 refine cvw hc2 (.inr rfl) ?_
 refine rz hA 2 ?_
 refine rt (gt ?_)
 show _=(PV.bool (A.cmp .geq n3 0))
 refine congrArg PV.bool ?_
 rw[B5];exact(ix_any' hA _).symm
def needAt (xs:List GItem)(k:Nat):Bool:=match xs[k]? with | some x=>needX xs k x | none=>false
def needAtZ (xs:List GItem)(k:Nat):Bool:=match xs[k]? with | some x=>needZ xs k x | none=>false
theorem needAt_some {xs:List GItem}{k:Nat}{x:GItem}(h:xs[k]? =some x):needAt xs k=needX xs k x:=by unfold needAt;rw[h]
theorem needAtZ_some {xs:List GItem}{k:Nat}{x:GItem}(h:xs[k]? =some x):needAtZ xs k=needZ xs k x:=by unfold needAtZ;rw[h]
theorem needAt_same {xs:List GItem}(hok:itemsOk xs=true)(k:Nat):needAtZ xs k=needAt xs k:=by
 unfold needAt needAtZ
 cases h:xs[k]? with
 | none=>rfl
 | some x=>exact need_one hok (List.mem_of_getElem? h)
theorem r_impl_needed (A:Alg)(hA:A=std)(xs:List GItem)(k:Int)(hx:(List.length xs:Int)≤4611686018427387904)(hk0:0≤k)(hk1:k < (List.length xs:Int)):Real Tryz.prog 130 [.sl 9 (List.map eItem xs),.ii k] (.bool (needAt xs (Int.toNat k))):=by
 obtain⟨a9,b1⟩:=nm (xs.map eItem)
 have B1:=rlen_map hA b1
 refine real_args (args':=[.sl 9 a9,.ii k]) (by subst b1;rfl) ?_
 refine real tyOk Tryz.func130 (by kernel_rfl) (afun_of rfl ?_)
 refine gx hA 1 ?_
 refine gs (gr (rn hA 2 ?_))
 have C8:(0:Int)≤k:=by
  omega
 have C9:(Int.toNat k) < List.length xs:=by
  omega
 obtain⟨x1,hx1⟩:∃ x,(xs)[(Int.toNat k)]? =some x:=⟨_,List.getElem?_eq_getElem C9⟩
 have D6:=List.mem_of_getElem? hx1
 obtain⟨b0,⟨a1,a0,a2,a4,a3,a6,a7,a5⟩⟩:=x1
 have C6:a9[(Int.toNat k)]? =some [.ii b0,.ii a1,.ii a0,.ii a2,.ii a4,.ii a3,.str a6,.str a7,.str a5]:=by
  exact map_at eItem b1 hx1
 refine ops_step rfl rfl (idx_sl rfl rfl rfl rfl rfl C8 rfl C6) ?_
 refine rz hA 3 ?_
 refine gs (gs (gr (rn hA 2 ?_)))
 obtain⟨u2,hu2⟩:=nm ((List.drop (Int.toNat 0) a9).take (Int.toNat k - Int.toNat 0):RR)
 have eu2:u2=List.map eItem (List.take (Int.toNat k) xs):=by rw[hu2,b1];exact(List.map_take ..).symm
 have lu2:=rlen_map hA eu2
 refine ops_step rfl rfl (slc_sl rfl rfl rfl rfl rfl rfl (by decide) (by omega) (by rw[b1,List.length_map];omega) rfl hu2) ?_
 refine rn hA 1 ?_
 obtain⟨B4,c0,hc4⟩:∃(B4:Bool),B4=(List.any (List.take (Int.toNat k) xs) (seqIs (⟨b0,⟨a1,a0,a2,a4,a3,a6,a7,a5⟩⟩:GItem)))∧Real Tryz.prog 99 [.sl 9 u2,.fn 151 [.rd [.ii b0,.ii a1,.ii a0,.ii a2,.ii a4,.ii a3,.str a6,.str a7,.str a5]]] (.bool B4):=⟨_,rfl,by subst eu2;exact r_ContainsFunc_seq A hA (List.take (Int.toNat k) xs) (by first | omega | (rw [List.length_take];omega)) b0 a1 a0 a2 a4 a3 a6 a7 a5⟩
 refine cvw hc4 (.inl trivial) ?_
 refine od ?_
 refine gc (fun c5=> ?_) (fun c5=> ?_)
 ·
  refine gx hA 1 ?_
  refine rt (gt ?_)
  refine congrArg PV.bool ?_
  have a8:(List.any (List.take (Int.toNat k) xs) (seqIs (⟨b0,⟨a1,a0,a2,a4,a3,a6,a7,a5⟩⟩:GItem)))=true:=by rw[← c0,c5]
  rw[needAt_some hx1]
  simp only[needX,needI,sameI,a8,Bool.true_and,Bool.and_true,Bool.false_and,Bool.and_false,Bool.not_false,Bool.not_true]
 refine gk (gx hA 4 ?_)
 refine gx hA 4 ?_
 refine gs (gx hA 2 ?_)
 refine go_block ?_
 refine gx hA 2 ?_
 refine gc (fun c6=> ?_) (fun c6=> ?_)
 ·
  have ec6:a1=1:=eql_t hA c6
  refine gr (rn hA 3 ?_)
  obtain⟨l4,f9,e3,g4,g1,d9,g0,f6,g3,y9,B3,w7,u4,y5,x9,t4,x7,x8,x5,B2,hc8⟩:∃(l4:Int) (f9:Int) (e3:Int) (g4:Int) (g1:Int) (d9:Int) (g0:ByteArray) (f6:ByteArray) (g3:ByteArray) (y9:Bool),l4=((Option.getD (boxAt a0 xs) zItem).Seq)∧f9=(((Option.getD (boxAt a0 xs) zItem).Rec).Kind)∧e3=(((Option.getD (boxAt a0 xs) zItem).Rec).Valid)∧g4=(((Option.getD (boxAt a0 xs) zItem).Rec).Uid)∧g1=(((Option.getD (boxAt a0 xs) zItem).Rec).Next)∧d9=(((Option.getD (boxAt a0 xs) zItem).Rec).Flags)∧g0=(((Option.getD (boxAt a0 xs) zItem).Rec).User)∧f6=(((Option.getD (boxAt a0 xs) zItem).Rec).Name)∧g3=(((Option.getD (boxAt a0 xs) zItem).Rec).Text)∧y9=(Option.isSome (boxAt a0 xs))∧Real Tryz.prog 72 [.sl 9 a9,.ii a0] (.tup [.agg [.ii l4,.ii f9,.ii e3,.ii g4,.ii g1,.ii d9,.str g0,.str f6,.str g3],.bool y9]):=⟨_,_,_,_,_,_,_,_,_,_,rfl,rfl,rfl,rfl,rfl,rfl,rfl,rfl,rfl,rfl,by subst b1;exact r_impl_boxThere A hA xs a0 (by assumption)⟩
  refine cvw hc8 (.inr rfl) ?_
  refine rz hA 5 ?_
  refine gs (gr (rn hA 2 ?_))
  refine ops_split 109 rfl (fun c9=> ?_) (fun c9=> ?_)
  ·
   refine rz hA 5 ?_
   refine rt (gt ?_)
   show _=(PV.bool (A.aeq [.ii l4,.ii f9,.ii e3,.ii g4,.ii g1,.ii d9,.str g0,.str f6,.str g3] [.ii b0,.ii a1,.ii a0,.ii a2,.ii a4,.ii a3,.str a6,.str a7,.str a5]))
   refine congrArg PV.bool ?_
   have a8:(List.any (List.take (Int.toNat k) xs) (seqIs (⟨b0,⟨a1,a0,a2,a4,a3,a6,a7,a5⟩⟩:GItem)))=false:=by rw[← c0,c5]
   have y4:(Option.isSome (boxAt a0 xs))=true:=by rw[← B2,c9]
   rw[needAt_some hx1]
   simp only[needX,needI,sameI,if_pos (show a1=1 by first | assumption | omega),if_neg (show ¬ a1=2 by omega),if_neg (show ¬ a1=5 by omega),if_neg (show ¬ (a1=3∨a1=4) by omega),a8,y4,Bool.true_and,Bool.and_true,Bool.false_and,Bool.and_false,Bool.not_false,Bool.not_true]
   subst hA
   simp only[B3,w7,u4,y5,x9,t4,x7,x8,x5]
   rfl
  refine rz hA 5 ?_
  refine rt (gt ?_)
  refine congrArg PV.bool ?_
  have a8:(List.any (List.take (Int.toNat k) xs) (seqIs (⟨b0,⟨a1,a0,a2,a4,a3,a6,a7,a5⟩⟩:GItem)))=false:=by rw[← c0,c5]
  have y4:(Option.isSome (boxAt a0 xs))=false:=by rw[← B2,c9]
  rw[needAt_some hx1]
  simp only[needX,needI,sameI,if_pos (show a1=1 by first | assumption | omega),if_neg (show ¬ a1=2 by omega),if_neg (show ¬ a1=5 by omega),if_neg (show ¬ (a1=3∨a1=4) by omega),a8,y4,Bool.true_and,Bool.and_true,Bool.false_and,Bool.and_false,Bool.not_false,Bool.not_true]
 have ec6:a1≠1:=eql_f hA c6
 refine gx hA 2 ?_
 refine gc (fun c10=> ?_) (fun c10=> ?_)
 ·
  have C5:a1=2:=eql_t hA c10
  refine gs (gs (gr (rn hA 2 ?_)))
  obtain⟨s3,y7,D0⟩:∃(s3:Bool),s3=(List.any xs (othB (⟨a1,a0,a2,a4,a3,a6,a7,a5⟩:GRec)))∧Real Tryz.prog 99 [.sl 9 a9,.fn 152 [.rd [.ii a1,.ii a0,.ii a2,.ii a4,.ii a3,.str a6,.str a7,.str a5]]] (.bool s3):=⟨_,rfl,by subst b1;exact r_ContainsFunc_oth A hA xs (by first | omega | (rw [List.length_take];omega)) a1 a0 a2 a4 a3 a6 a7 a5⟩
  refine cvw D0 (.inl trivial) ?_
  refine rz hA 1 ?_
  refine gc (fun c13=> ?_) (fun c13=> ?_)
  ·
   have c14:s3=false:=bnot_t hA c13
   refine gx hA 1 ?_
   refine rt (gt ?_)
   refine congrArg PV.bool ?_
   have a8:(List.any (List.take (Int.toNat k) xs) (seqIs (⟨b0,⟨a1,a0,a2,a4,a3,a6,a7,a5⟩⟩:GItem)))=false:=by rw[← c0,c5]
   have n0:(List.any xs (othB (⟨a1,a0,a2,a4,a3,a6,a7,a5⟩:GRec)))=false:=by rw[← y7,c14]
   rw[needAt_some hx1]
   simp only[needX,needI,sameI,if_neg (show ¬ a1=1 by first | assumption | omega),if_pos (show a1=2 by first | assumption | omega),if_neg (show ¬ a1=5 by omega),if_neg (show ¬ (a1=3∨a1=4) by omega),a8,n0,Bool.true_and,Bool.and_true,Bool.false_and,Bool.and_false,Bool.not_false,Bool.not_true]
  have c15:s3=true:=bnot_f hA c13
  refine gk (gr (rn hA 2 ?_))
  obtain⟨l2,e6,d4,f8,f3,d1,e5,e0,f5,y1,z7,s4,o6,y0,v7,o0,v4,u5,t7,z0,C4⟩:∃(l2:Int) (e6:Int) (d4:Int) (f8:Int) (f3:Int) (d1:Int) (e5:ByteArray) (e0:ByteArray) (f5:ByteArray) (y1:Bool),l2=((Option.getD (lat (kindIs 2 a0) bySeqB xs) zItem).Seq)∧e6=(((Option.getD (lat (kindIs 2 a0) bySeqB xs) zItem).Rec).Kind)∧d4=(((Option.getD (lat (kindIs 2 a0) bySeqB xs) zItem).Rec).Valid)∧f8=(((Option.getD (lat (kindIs 2 a0) bySeqB xs) zItem).Rec).Uid)∧f3=(((Option.getD (lat (kindIs 2 a0) bySeqB xs) zItem).Rec).Next)∧d1=(((Option.getD (lat (kindIs 2 a0) bySeqB xs) zItem).Rec).Flags)∧e5=(((Option.getD (lat (kindIs 2 a0) bySeqB xs) zItem).Rec).User)∧e0=(((Option.getD (lat (kindIs 2 a0) bySeqB xs) zItem).Rec).Name)∧f5=(((Option.getD (lat (kindIs 2 a0) bySeqB xs) zItem).Rec).Text)∧y1=(Option.isSome (lat (kindIs 2 a0) bySeqB xs))∧Real Tryz.prog 103 [.sl 9 a9,.fn 153 [.rd [.ii a1,.ii a0,.ii a2,.ii a4,.ii a3,.str a6,.str a7,.str a5]],.fn 106 []] (.tup [.agg [.ii l2,.ii e6,.ii d4,.ii f8,.ii f3,.ii d1,.str e5,.str e0,.str f5],.bool y1]):=⟨_,_,_,_,_,_,_,_,_,_,rfl,rfl,rfl,rfl,rfl,rfl,rfl,rfl,rfl,rfl,by subst b1;exact r_latest_need A hA xs a1 a0 a2 a4 a3 a6 a7 a5 (by assumption)⟩
  refine cvw C4 (.inl (by simp only[fresh,freshL,and_self])) ?_
  refine rz hA 5 ?_
  refine gs (gr (rn hA 2 ?_))
  refine ops_split 109 rfl (fun c18=> ?_) (fun c18=> ?_)
  ·
   refine rz hA 5 ?_
   refine rt (gt ?_)
   show _=(PV.bool (A.aeq [.ii l2,.ii e6,.ii d4,.ii f8,.ii f3,.ii d1,.str e5,.str e0,.str f5] [.ii b0,.ii a1,.ii a0,.ii a2,.ii a4,.ii a3,.str a6,.str a7,.str a5]))
   refine congrArg PV.bool ?_
   have a8:(List.any (List.take (Int.toNat k) xs) (seqIs (⟨b0,⟨a1,a0,a2,a4,a3,a6,a7,a5⟩⟩:GItem)))=false:=by rw[← c0,c5]
   have n0:(List.any xs (othB (⟨a1,a0,a2,a4,a3,a6,a7,a5⟩:GRec)))=true:=by rw[← y7,c15]
   have u1:(Option.isSome (lat (kindIs 2 a0) bySeqB xs))=true:=by rw[← z0,c18]
   rw[needAt_some hx1]
   simp only[needX,needI,sameI,if_neg (show ¬ a1=1 by first | assumption | omega),if_pos (show a1=2 by first | assumption | omega),if_neg (show ¬ a1=5 by omega),if_neg (show ¬ (a1=3∨a1=4) by omega),a8,n0,u1,Bool.true_and,Bool.and_true,Bool.false_and,Bool.and_false,Bool.not_false,Bool.not_true]
   subst hA
   simp only[z7,s4,o6,y0,v7,o0,v4,u5,t7]
   rfl
  refine rz hA 5 ?_
  refine rt (gt ?_)
  refine congrArg PV.bool ?_
  have a8:(List.any (List.take (Int.toNat k) xs) (seqIs (⟨b0,⟨a1,a0,a2,a4,a3,a6,a7,a5⟩⟩:GItem)))=false:=by rw[← c0,c5]
  have n0:(List.any xs (othB (⟨a1,a0,a2,a4,a3,a6,a7,a5⟩:GRec)))=true:=by rw[← y7,c15]
  have u1:(Option.isSome (lat (kindIs 2 a0) bySeqB xs))=false:=by rw[← z0,c18]
  rw[needAt_some hx1]
  simp only[needX,needI,sameI,if_neg (show ¬ a1=1 by first | assumption | omega),if_pos (show a1=2 by first | assumption | omega),if_neg (show ¬ a1=5 by omega),if_neg (show ¬ (a1=3∨a1=4) by omega),a8,n0,u1,Bool.true_and,Bool.and_true,Bool.false_and,Bool.and_false,Bool.not_false,Bool.not_true]
 have C5:a1≠2:=eql_f hA c10
 refine gs (gx hA 2 ?_)
 refine gc (fun c19=> ?_) (fun c19=> ?_)
 ·
  have C3:a1=3:=eql_t hA c19
  refine gk ?_
  refine gc (fun c20=> ?_) (fun c20=> ?_)
  ·
   refine gs (gs (gr (rn hA 5 ?_)))
   obtain⟨m5,j8,i1,k8,j6,i4,j7,k0,i7,m2,z6,u7,o1,x0,w1,o5,v1,w4,w0,w6,B9⟩:∃(m5:Int) (j8:Int) (i1:Int) (k8:Int) (j6:Int) (i4:Int) (j7:ByteArray) (k0:ByteArray) (i7:ByteArray) (m2:Bool),m5=((Option.getD (mailAt a0 a2 xs) zItem).Seq)∧j8=(((Option.getD (mailAt a0 a2 xs) zItem).Rec).Kind)∧i1=(((Option.getD (mailAt a0 a2 xs) zItem).Rec).Valid)∧k8=(((Option.getD (mailAt a0 a2 xs) zItem).Rec).Uid)∧j6=(((Option.getD (mailAt a0 a2 xs) zItem).Rec).Next)∧i4=(((Option.getD (mailAt a0 a2 xs) zItem).Rec).Flags)∧j7=(((Option.getD (mailAt a0 a2 xs) zItem).Rec).User)∧k0=(((Option.getD (mailAt a0 a2 xs) zItem).Rec).Name)∧i7=(((Option.getD (mailAt a0 a2 xs) zItem).Rec).Text)∧m2=(Option.isSome (mailAt a0 a2 xs))∧Real Tryz.prog 110 [.sl 9 a9,.ii a0,.ii a2] (.tup [.agg [.ii m5,.ii j8,.ii i1,.ii k8,.ii j6,.ii i4,.str j7,.str k0,.str i7],.bool m2]):=⟨_,_,_,_,_,_,_,_,_,_,rfl,rfl,rfl,rfl,rfl,rfl,rfl,rfl,rfl,rfl,by subst b1;exact r_impl_mailThere A hA xs a0 a2 (by assumption)⟩
   refine cvw B9 (.inr rfl) ?_
   refine rz hA 6 ?_
   refine gx hA 2 ?_
   refine gc (fun c23=> ?_) (fun c23=> ?_)
   ·
    have c24:m2=false:=bnot_t hA c23
    refine gx hA 1 ?_
    refine rt (gt ?_)
    refine congrArg PV.bool ?_
    have a8:(List.any (List.take (Int.toNat k) xs) (seqIs (⟨b0,⟨a1,a0,a2,a4,a3,a6,a7,a5⟩⟩:GItem)))=false:=by rw[← c0,c5]
    have l7:(Option.isSome (mailAt a0 a2 xs))=false:=by rw[← w6,c24]
    rw[needAt_some hx1]
    simp only[needX,needI,sameI,if_neg (show ¬ a1=1 by first | assumption | omega),if_neg (show ¬ a1=2 by first | assumption | omega),if_pos (show a1=3∨a1=4 by omega),if_neg (show ¬ a1=5 by omega),a8,l7,Bool.true_and,Bool.and_true,Bool.false_and,Bool.and_false,Bool.not_false,Bool.not_true]
   have c25:m2=true:=bnot_f hA c23
   refine gk (gr (rn hA 7 ?_))
   obtain⟨l3,d8,d3,g2,f1,d7,e8,e9,e4,y3,z4,u8,q9,w8,s0,r6,s9,u6,t5,z2,D1⟩:∃(l3:Int) (d8:Int) (d3:Int) (g2:Int) (f1:Int) (d7:Int) (e8:ByteArray) (e9:ByteArray) (e4:ByteArray) (y3:Bool),l3=((Option.getD (lat (mailIs a1 a0 a2) bySeqB xs) zItem).Seq)∧d8=(((Option.getD (lat (mailIs a1 a0 a2) bySeqB xs) zItem).Rec).Kind)∧d3=(((Option.getD (lat (mailIs a1 a0 a2) bySeqB xs) zItem).Rec).Valid)∧g2=(((Option.getD (lat (mailIs a1 a0 a2) bySeqB xs) zItem).Rec).Uid)∧f1=(((Option.getD (lat (mailIs a1 a0 a2) bySeqB xs) zItem).Rec).Next)∧d7=(((Option.getD (lat (mailIs a1 a0 a2) bySeqB xs) zItem).Rec).Flags)∧e8=(((Option.getD (lat (mailIs a1 a0 a2) bySeqB xs) zItem).Rec).User)∧e9=(((Option.getD (lat (mailIs a1 a0 a2) bySeqB xs) zItem).Rec).Name)∧e4=(((Option.getD (lat (mailIs a1 a0 a2) bySeqB xs) zItem).Rec).Text)∧y3=(Option.isSome (lat (mailIs a1 a0 a2) bySeqB xs))∧Real Tryz.prog 111 [.sl 9 a9,.ii a1,.ii a0,.ii a2] (.tup [.agg [.ii l3,.ii d8,.ii d3,.ii g2,.ii f1,.ii d7,.str e8,.str e9,.str e4],.bool y3]):=⟨_,_,_,_,_,_,_,_,_,_,rfl,rfl,rfl,rfl,rfl,rfl,rfl,rfl,rfl,rfl,by subst b1;exact r_impl_mailItem A hA xs a1 a0 a2 (by assumption)⟩
   refine cvw D1 (.inr rfl) ?_
   refine rz hA 5 ?_
   refine gs (gr (rn hA 2 ?_))
   refine ops_split 109 rfl (fun c28=> ?_) (fun c28=> ?_)
   ·
    refine rz hA 5 ?_
    refine rt (gt ?_)
    show _=(PV.bool (A.aeq [.ii l3,.ii d8,.ii d3,.ii g2,.ii f1,.ii d7,.str e8,.str e9,.str e4] [.ii b0,.ii a1,.ii a0,.ii a2,.ii a4,.ii a3,.str a6,.str a7,.str a5]))
    refine congrArg PV.bool ?_
    have a8:(List.any (List.take (Int.toNat k) xs) (seqIs (⟨b0,⟨a1,a0,a2,a4,a3,a6,a7,a5⟩⟩:GItem)))=false:=by rw[← c0,c5]
    have l7:(Option.isSome (mailAt a0 a2 xs))=true:=by rw[← w6,c25]
    have v9:(Option.isSome (lat (mailIs a1 a0 a2) bySeqB xs))=true:=by rw[← z2,c28]
    rw[needAt_some hx1]
    simp only[needX,needI,sameI,if_neg (show ¬ a1=1 by first | assumption | omega),if_neg (show ¬ a1=2 by first | assumption | omega),if_pos (show a1=3∨a1=4 by omega),if_neg (show ¬ a1=5 by omega),a8,l7,v9,Bool.true_and,Bool.and_true,Bool.false_and,Bool.and_false,Bool.not_false,Bool.not_true]
    subst hA
    simp only[z6,u7,o1,x0,w1,o5,v1,w4,w0,z4,u8,q9,w8,s0,r6,s9,u6,t5]
    rfl
   refine rz hA 5 ?_
   refine rt (gt ?_)
   refine congrArg PV.bool ?_
   have a8:(List.any (List.take (Int.toNat k) xs) (seqIs (⟨b0,⟨a1,a0,a2,a4,a3,a6,a7,a5⟩⟩:GItem)))=false:=by rw[← c0,c5]
   have l7:(Option.isSome (mailAt a0 a2 xs))=true:=by rw[← w6,c25]
   have v9:(Option.isSome (lat (mailIs a1 a0 a2) bySeqB xs))=false:=by rw[← z2,c28]
   rw[needAt_some hx1]
   simp only[needX,needI,sameI,if_neg (show ¬ a1=1 by first | assumption | omega),if_neg (show ¬ a1=2 by first | assumption | omega),if_pos (show a1=3∨a1=4 by omega),if_neg (show ¬ a1=5 by omega),a8,l7,v9,Bool.true_and,Bool.and_true,Bool.false_and,Bool.and_false,Bool.not_false,Bool.not_true]
  exact no_f c20 (show(A.cmp .eql a1 3)=true from by exact c19)
 have C3:a1≠3:=eql_f hA c19
 refine gy hA 2 ?_
 refine gc (fun c29=> ?_) (fun c29=> ?_)
 ·
  have C1:a1=4:=eql_t hA c29
  refine gs (gs (gr (rn hA 5 ?_)))
  obtain⟨m4,j1,g9,k7,i9,g5,i8,i5,j0,m1,z8,s8,o3,x4,u0,o2,v2,s5,s1,r9,D4⟩:∃(m4:Int) (j1:Int) (g9:Int) (k7:Int) (i9:Int) (g5:Int) (i8:ByteArray) (i5:ByteArray) (j0:ByteArray) (m1:Bool),m4=((Option.getD (mailAt a0 a2 xs) zItem).Seq)∧j1=(((Option.getD (mailAt a0 a2 xs) zItem).Rec).Kind)∧g9=(((Option.getD (mailAt a0 a2 xs) zItem).Rec).Valid)∧k7=(((Option.getD (mailAt a0 a2 xs) zItem).Rec).Uid)∧i9=(((Option.getD (mailAt a0 a2 xs) zItem).Rec).Next)∧g5=(((Option.getD (mailAt a0 a2 xs) zItem).Rec).Flags)∧i8=(((Option.getD (mailAt a0 a2 xs) zItem).Rec).User)∧i5=(((Option.getD (mailAt a0 a2 xs) zItem).Rec).Name)∧j0=(((Option.getD (mailAt a0 a2 xs) zItem).Rec).Text)∧m1=(Option.isSome (mailAt a0 a2 xs))∧Real Tryz.prog 110 [.sl 9 a9,.ii a0,.ii a2] (.tup [.agg [.ii m4,.ii j1,.ii g9,.ii k7,.ii i9,.ii g5,.str i8,.str i5,.str j0],.bool m1]):=⟨_,_,_,_,_,_,_,_,_,_,rfl,rfl,rfl,rfl,rfl,rfl,rfl,rfl,rfl,rfl,by subst b1;exact r_impl_mailThere A hA xs a0 a2 (by assumption)⟩
  refine cvw D4 (.inr rfl) ?_
  refine rz hA 6 ?_
  refine gx hA 2 ?_
  refine gc (fun c32=> ?_) (fun c32=> ?_)
  ·
   have c33:m1=false:=bnot_t hA c32
   refine gx hA 1 ?_
   refine rt (gt ?_)
   refine congrArg PV.bool ?_
   have a8:(List.any (List.take (Int.toNat k) xs) (seqIs (⟨b0,⟨a1,a0,a2,a4,a3,a6,a7,a5⟩⟩:GItem)))=false:=by rw[← c0,c5]
   have l6:(Option.isSome (mailAt a0 a2 xs))=false:=by rw[← r9,c33]
   rw[needAt_some hx1]
   simp only[needX,needI,sameI,if_neg (show ¬ a1=1 by first | assumption | omega),if_neg (show ¬ a1=2 by first | assumption | omega),if_pos (show a1=3∨a1=4 by omega),if_neg (show ¬ a1=5 by omega),a8,l6,Bool.true_and,Bool.and_true,Bool.false_and,Bool.and_false,Bool.not_false,Bool.not_true]
  have c34:m1=true:=bnot_f hA c32
  refine gk (gr (rn hA 7 ?_))
  obtain⟨l1,f0,c7,f7,e2,c8,e1,f4,f2,y2,z9,v6,o9,x6,s2,r7,u3,w5,t1,z1,D5⟩:∃(l1:Int) (f0:Int) (c7:Int) (f7:Int) (e2:Int) (c8:Int) (e1:ByteArray) (f4:ByteArray) (f2:ByteArray) (y2:Bool),l1=((Option.getD (lat (mailIs a1 a0 a2) bySeqB xs) zItem).Seq)∧f0=(((Option.getD (lat (mailIs a1 a0 a2) bySeqB xs) zItem).Rec).Kind)∧c7=(((Option.getD (lat (mailIs a1 a0 a2) bySeqB xs) zItem).Rec).Valid)∧f7=(((Option.getD (lat (mailIs a1 a0 a2) bySeqB xs) zItem).Rec).Uid)∧e2=(((Option.getD (lat (mailIs a1 a0 a2) bySeqB xs) zItem).Rec).Next)∧c8=(((Option.getD (lat (mailIs a1 a0 a2) bySeqB xs) zItem).Rec).Flags)∧e1=(((Option.getD (lat (mailIs a1 a0 a2) bySeqB xs) zItem).Rec).User)∧f4=(((Option.getD (lat (mailIs a1 a0 a2) bySeqB xs) zItem).Rec).Name)∧f2=(((Option.getD (lat (mailIs a1 a0 a2) bySeqB xs) zItem).Rec).Text)∧y2=(Option.isSome (lat (mailIs a1 a0 a2) bySeqB xs))∧Real Tryz.prog 111 [.sl 9 a9,.ii a1,.ii a0,.ii a2] (.tup [.agg [.ii l1,.ii f0,.ii c7,.ii f7,.ii e2,.ii c8,.str e1,.str f4,.str f2],.bool y2]):=⟨_,_,_,_,_,_,_,_,_,_,rfl,rfl,rfl,rfl,rfl,rfl,rfl,rfl,rfl,rfl,by subst b1;exact r_impl_mailItem A hA xs a1 a0 a2 (by assumption)⟩
  refine cvw D5 (.inr rfl) ?_
  refine rz hA 5 ?_
  refine gs (gr (rn hA 2 ?_))
  refine ops_split 109 rfl (fun c37=> ?_) (fun c37=> ?_)
  ·
   refine rz hA 5 ?_
   refine rt (gt ?_)
   show _=(PV.bool (A.aeq [.ii l1,.ii f0,.ii c7,.ii f7,.ii e2,.ii c8,.str e1,.str f4,.str f2] [.ii b0,.ii a1,.ii a0,.ii a2,.ii a4,.ii a3,.str a6,.str a7,.str a5]))
   refine congrArg PV.bool ?_
   have a8:(List.any (List.take (Int.toNat k) xs) (seqIs (⟨b0,⟨a1,a0,a2,a4,a3,a6,a7,a5⟩⟩:GItem)))=false:=by rw[← c0,c5]
   have l6:(Option.isSome (mailAt a0 a2 xs))=true:=by rw[← r9,c34]
   have v8:(Option.isSome (lat (mailIs a1 a0 a2) bySeqB xs))=true:=by rw[← z1,c37]
   rw[needAt_some hx1]
   simp only[needX,needI,sameI,if_neg (show ¬ a1=1 by first | assumption | omega),if_neg (show ¬ a1=2 by first | assumption | omega),if_pos (show a1=3∨a1=4 by omega),if_neg (show ¬ a1=5 by omega),a8,l6,v8,Bool.true_and,Bool.and_true,Bool.false_and,Bool.and_false,Bool.not_false,Bool.not_true]
   subst hA
   simp only[z8,s8,o3,x4,u0,o2,v2,s5,s1,z9,v6,o9,x6,s2,r7,u3,w5,t1]
   rfl
  refine rz hA 5 ?_
  refine rt (gt ?_)
  refine congrArg PV.bool ?_
  have a8:(List.any (List.take (Int.toNat k) xs) (seqIs (⟨b0,⟨a1,a0,a2,a4,a3,a6,a7,a5⟩⟩:GItem)))=false:=by rw[← c0,c5]
  have l6:(Option.isSome (mailAt a0 a2 xs))=true:=by rw[← r9,c34]
  have v8:(Option.isSome (lat (mailIs a1 a0 a2) bySeqB xs))=false:=by rw[← z1,c37]
  rw[needAt_some hx1]
  simp only[needX,needI,sameI,if_neg (show ¬ a1=1 by first | assumption | omega),if_neg (show ¬ a1=2 by first | assumption | omega),if_pos (show a1=3∨a1=4 by omega),if_neg (show ¬ a1=5 by omega),a8,l6,v8,Bool.true_and,Bool.and_true,Bool.false_and,Bool.and_false,Bool.not_false,Bool.not_true]
 have C1:a1≠4:=eql_f hA c29
 refine gx hA 2 ?_
 refine gc (fun c38=> ?_) (fun c38=> ?_)
 ·
  have C7:a1=5:=eql_t hA c38
  refine gs (gr (rn hA 3 ?_))
  obtain⟨m3,i6,g8,k9,j4,i0,k3,j5,k1,m7,z3,t3,r3,w9,v0,o7,s7,v5,t0,m8,C0⟩:∃(m3:Int) (i6:Int) (g8:Int) (k9:Int) (j4:Int) (i0:Int) (k3:ByteArray) (j5:ByteArray) (k1:ByteArray) (m7:Bool),m3=((Option.getD (boxAt a0 xs) zItem).Seq)∧i6=(((Option.getD (boxAt a0 xs) zItem).Rec).Kind)∧g8=(((Option.getD (boxAt a0 xs) zItem).Rec).Valid)∧k9=(((Option.getD (boxAt a0 xs) zItem).Rec).Uid)∧j4=(((Option.getD (boxAt a0 xs) zItem).Rec).Next)∧i0=(((Option.getD (boxAt a0 xs) zItem).Rec).Flags)∧k3=(((Option.getD (boxAt a0 xs) zItem).Rec).User)∧j5=(((Option.getD (boxAt a0 xs) zItem).Rec).Name)∧k1=(((Option.getD (boxAt a0 xs) zItem).Rec).Text)∧m7=(Option.isSome (boxAt a0 xs))∧Real Tryz.prog 72 [.sl 9 a9,.ii a0] (.tup [.agg [.ii m3,.ii i6,.ii g8,.ii k9,.ii j4,.ii i0,.str k3,.str j5,.str k1],.bool m7]):=⟨_,_,_,_,_,_,_,_,_,_,rfl,rfl,rfl,rfl,rfl,rfl,rfl,rfl,rfl,rfl,by subst b1;exact r_impl_boxThere A hA xs a0 (by assumption)⟩
  refine cvw C0 (.inr rfl) ?_
  refine rz hA 6 ?_
  refine gs (gr (rn hA 5 ?_))
  obtain⟨m0,k4,i3,l0,j2,g6,j9,j3,k2,m6,z5,w2,r2,x3,r8,o8,w3,t6,v3,s6,C2⟩:∃(m0:Int) (k4:Int) (i3:Int) (l0:Int) (j2:Int) (g6:Int) (j9:ByteArray) (j3:ByteArray) (k2:ByteArray) (m6:Bool),m0=((Option.getD (lat (mailIs 3 a0 a2) bySeqB xs) zItem).Seq)∧k4=(((Option.getD (lat (mailIs 3 a0 a2) bySeqB xs) zItem).Rec).Kind)∧i3=(((Option.getD (lat (mailIs 3 a0 a2) bySeqB xs) zItem).Rec).Valid)∧l0=(((Option.getD (lat (mailIs 3 a0 a2) bySeqB xs) zItem).Rec).Uid)∧j2=(((Option.getD (lat (mailIs 3 a0 a2) bySeqB xs) zItem).Rec).Next)∧g6=(((Option.getD (lat (mailIs 3 a0 a2) bySeqB xs) zItem).Rec).Flags)∧j9=(((Option.getD (lat (mailIs 3 a0 a2) bySeqB xs) zItem).Rec).User)∧j3=(((Option.getD (lat (mailIs 3 a0 a2) bySeqB xs) zItem).Rec).Name)∧k2=(((Option.getD (lat (mailIs 3 a0 a2) bySeqB xs) zItem).Rec).Text)∧m6=(Option.isSome (lat (mailIs 3 a0 a2) bySeqB xs))∧Real Tryz.prog 111 [.sl 9 a9,.ii 3,.ii a0,.ii a2] (.tup [.agg [.ii m0,.ii k4,.ii i3,.ii l0,.ii j2,.ii g6,.str j9,.str j3,.str k2],.bool m6]):=⟨_,_,_,_,_,_,_,_,_,_,rfl,rfl,rfl,rfl,rfl,rfl,rfl,rfl,rfl,rfl,by subst b1;exact r_impl_mailItem A hA xs 3 a0 a2 (by assumption)⟩
  refine cvw C2 (.inr rfl) ?_
  refine rz hA 6 ?_
  refine gs (gs (gr (rn hA 3 ?_)))
  refine ops_split 95 rfl (fun c43=> ?_) (fun c43=> ?_)
  ·
   have c44:m7=false:=bnot_t hA c43
   refine rz hA 3 ?_
   refine gc (fun c45=> ?_) (fun c45=> ?_)
   ·
    refine gx hA 1 ?_
    refine rt (gt ?_)
    refine congrArg PV.bool ?_
    have a8:(List.any (List.take (Int.toNat k) xs) (seqIs (⟨b0,⟨a1,a0,a2,a4,a3,a6,a7,a5⟩⟩:GItem)))=false:=by rw[← c0,c5]
    have g7:(Option.isSome (boxAt a0 xs))=false:=by rw[← m8,c44]
    rw[needAt_some hx1]
    simp only[needX,needI,sameI,if_neg (show ¬ a1=1 by first | assumption | omega),if_neg (show ¬ a1=2 by first | assumption | omega),if_pos (show a1=5 by first | assumption | omega),if_neg (show ¬ (a1=3∨a1=4) by omega),a8,g7,Bool.true_and,Bool.and_true,Bool.false_and,Bool.and_false,Bool.not_false,Bool.not_true]
   exact no_f c45 (show true=true from by rfl)
  have c46:m7=true:=bnot_f hA c43
  refine rz hA 3 ?_
  refine gc (fun c47=> ?_) (fun c47=> ?_)
  ·
   have c48:m6=false:=bnot_t hA c47
   refine gx hA 1 ?_
   refine rt (gt ?_)
   refine congrArg PV.bool ?_
   have a8:(List.any (List.take (Int.toNat k) xs) (seqIs (⟨b0,⟨a1,a0,a2,a4,a3,a6,a7,a5⟩⟩:GItem)))=false:=by rw[← c0,c5]
   have g7:(Option.isSome (boxAt a0 xs))=true:=by rw[← m8,c46]
   have l5:(Option.isSome (lat (mailIs 3 a0 a2) bySeqB xs))=false:=by rw[← s6,c48]
   rw[needAt_some hx1]
   simp only[needX,needI,sameI,if_neg (show ¬ a1=1 by first | assumption | omega),if_neg (show ¬ a1=2 by first | assumption | omega),if_pos (show a1=5 by first | assumption | omega),if_neg (show ¬ (a1=3∨a1=4) by omega),a8,g7,l5,Bool.true_and,Bool.and_true,Bool.false_and,Bool.and_false,Bool.not_false,Bool.not_true]
  have c49:m6=true:=bnot_f hA c47
  refine gk (gr (rn hA 5 ?_))
  obtain⟨k6,d2,c2,e7,d5,c3,c4,d0,d6,t2,y8,o4,n7,u9,r1,n2,r4,r5,r0,y6,D3⟩:∃(k6:Int) (d2:Int) (c2:Int) (e7:Int) (d5:Int) (c3:Int) (c4:ByteArray) (d0:ByteArray) (d6:ByteArray) (t2:Bool),k6=((Option.getD (lat (mailIs 5 a0 a2) bySeqB xs) zItem).Seq)∧d2=(((Option.getD (lat (mailIs 5 a0 a2) bySeqB xs) zItem).Rec).Kind)∧c2=(((Option.getD (lat (mailIs 5 a0 a2) bySeqB xs) zItem).Rec).Valid)∧e7=(((Option.getD (lat (mailIs 5 a0 a2) bySeqB xs) zItem).Rec).Uid)∧d5=(((Option.getD (lat (mailIs 5 a0 a2) bySeqB xs) zItem).Rec).Next)∧c3=(((Option.getD (lat (mailIs 5 a0 a2) bySeqB xs) zItem).Rec).Flags)∧c4=(((Option.getD (lat (mailIs 5 a0 a2) bySeqB xs) zItem).Rec).User)∧d0=(((Option.getD (lat (mailIs 5 a0 a2) bySeqB xs) zItem).Rec).Name)∧d6=(((Option.getD (lat (mailIs 5 a0 a2) bySeqB xs) zItem).Rec).Text)∧t2=(Option.isSome (lat (mailIs 5 a0 a2) bySeqB xs))∧Real Tryz.prog 111 [.sl 9 a9,.ii 5,.ii a0,.ii a2] (.tup [.agg [.ii k6,.ii d2,.ii c2,.ii e7,.ii d5,.ii c3,.str c4,.str d0,.str d6],.bool t2]):=⟨_,_,_,_,_,_,_,_,_,_,rfl,rfl,rfl,rfl,rfl,rfl,rfl,rfl,rfl,rfl,by subst b1;exact r_impl_mailItem A hA xs 5 a0 a2 (by assumption)⟩
  refine cvw D3 (.inr rfl) ?_
  refine rz hA 5 ?_
  refine gs (gr (rn hA 2 ?_))
  refine ops_split 109 rfl (fun c52=> ?_) (fun c52=> ?_)
  ·
   refine rz hA 5 ?_
   refine rt (gt ?_)
   show _=(PV.bool (A.aeq [.ii k6,.ii d2,.ii c2,.ii e7,.ii d5,.ii c3,.str c4,.str d0,.str d6] [.ii b0,.ii a1,.ii a0,.ii a2,.ii a4,.ii a3,.str a6,.str a7,.str a5]))
   refine congrArg PV.bool ?_
   have a8:(List.any (List.take (Int.toNat k) xs) (seqIs (⟨b0,⟨a1,a0,a2,a4,a3,a6,a7,a5⟩⟩:GItem)))=false:=by rw[← c0,c5]
   have g7:(Option.isSome (boxAt a0 xs))=true:=by rw[← m8,c46]
   have l5:(Option.isSome (lat (mailIs 3 a0 a2) bySeqB xs))=true:=by rw[← s6,c49]
   have n1:(Option.isSome (lat (mailIs 5 a0 a2) bySeqB xs))=true:=by rw[← y6,c52]
   rw[needAt_some hx1]
   simp only[needX,needI,sameI,if_neg (show ¬ a1=1 by first | assumption | omega),if_neg (show ¬ a1=2 by first | assumption | omega),if_pos (show a1=5 by first | assumption | omega),if_neg (show ¬ (a1=3∨a1=4) by omega),a8,g7,l5,n1,Bool.true_and,Bool.and_true,Bool.false_and,Bool.and_false,Bool.not_false,Bool.not_true]
   subst hA
   simp only[z3,t3,r3,w9,v0,o7,s7,v5,t0,z5,w2,r2,x3,r8,o8,w3,t6,v3,y8,o4,n7,u9,r1,n2,r4,r5,r0]
   rfl
  refine rz hA 5 ?_
  refine rt (gt ?_)
  refine congrArg PV.bool ?_
  have a8:(List.any (List.take (Int.toNat k) xs) (seqIs (⟨b0,⟨a1,a0,a2,a4,a3,a6,a7,a5⟩⟩:GItem)))=false:=by rw[← c0,c5]
  have g7:(Option.isSome (boxAt a0 xs))=true:=by rw[← m8,c46]
  have l5:(Option.isSome (lat (mailIs 3 a0 a2) bySeqB xs))=true:=by rw[← s6,c49]
  have n1:(Option.isSome (lat (mailIs 5 a0 a2) bySeqB xs))=false:=by rw[← y6,c52]
  rw[needAt_some hx1]
  simp only[needX,needI,sameI,if_neg (show ¬ a1=1 by first | assumption | omega),if_neg (show ¬ a1=2 by first | assumption | omega),if_pos (show a1=5 by first | assumption | omega),if_neg (show ¬ (a1=3∨a1=4) by omega),a8,g7,l5,n1,Bool.true_and,Bool.and_true,Bool.false_and,Bool.and_false,Bool.not_false,Bool.not_true]
 have C7:a1≠5:=eql_f hA c38
 refine gk (gx hA 7 ?_)
 refine rt (gt ?_)
 refine congrArg PV.bool ?_
 have a8:(List.any (List.take (Int.toNat k) xs) (seqIs (⟨b0,⟨a1,a0,a2,a4,a3,a6,a7,a5⟩⟩:GItem)))=false:=by rw[← c0,c5]
 rw[needAt_some hx1]
 simp only[needX,needI,sameI,if_neg (show ¬ a1=1 by first | assumption | omega),if_neg (show ¬ a1=2 by first | assumption | omega),if_neg (show ¬ a1=5 by first | assumption | omega),if_neg (show ¬ (a1=3∨a1=4) by omega),a8,Bool.true_and,Bool.and_true,Bool.false_and,Bool.and_false,Bool.not_false,Bool.not_true]
end Go.Av
