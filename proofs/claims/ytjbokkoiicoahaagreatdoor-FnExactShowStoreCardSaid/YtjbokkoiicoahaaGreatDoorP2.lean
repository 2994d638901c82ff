/- Walks: what is freed, what is kept. -/
import Derived.Test.YtjbokkoiicoahaaGreatDoorLv
namespace Go.Av
open Go Go.Proofs
set_option maxRecDepth 100000
set_option maxHeartbeats 4000000
set_option linter.unusedVariables false
set_option linter.unusedSimpArgs false
def S150_1 (p0:RR)(p1:Int)(p2:Int)(p3:Int):St:={sl:=[.sl 1 p0,.ii p1,.bad,.bad,.bad,.bad,.bad,.ii p2,.ii p3,.bad,.bad,.bad,.bad,.bad,.bad,.bad,.bad,.bad,.bad],bl:=[]}
theorem r_slices_Index_int_int_ (A:Alg)(hA:A=std)(xs:List Int)(v:Int)(hx:(List.length xs:Int)≤4611686018427387904):Real Tryz.prog 150 [.sl 1 (List.map eInt xs),.ii v] (.ii (ixF (fun x=>decide (x=v)) xs 0)):=by
 obtain⟨d3,d6⟩:=nm (xs.map eInt)
 have f8:=rlen_map hA d6
 refine real_args (args':=[.sl 1 d3,.ii v]) (by subst d6;rfl) ?_
 refine real tyOk Tryz.func150 (by kernel_rfl) (afun_of rfl ?_)
 refine gx hA 1 ?_
 refine gs (gx hA 3 ?_)
 refine go_block ?_
 refine go_loopE (fun σ m=>∃(i:Nat) (n:Int),σ=(S150_1 d3 v (A.rlen d3) n)∧(n=(i:Int)∧i≤List.length xs∧ixF (fun x=>decide (x=v)) xs 0=ixF (fun x=>decide (x=v)) (xs.drop i) i)∧m=List.length xs - i) _ [] [0,1,7,8] [] (S150_1 d3 v (A.rlen d3) 0) rfl (by cbv) ⟨0,0,rfl,?_,rfl⟩ (fun σ m hI=> ?_)
 ·
  exact⟨rfl,Nat.zero_le _,rfl⟩
 obtain⟨i,n,rfl,⟨hn,hi,hE⟩,rfl⟩:=hI
 refine gx hA 1 ?_
 refine gs ?_
 refine gc (fun c1=> ?_) (fun c1=> ?_)
 ·
  have ec1:n < (A.rlen d3):=lss_t hA c1
  refine gk (gs ?_)
  refine go_block ?_
  refine gx hA 2 ?_
  refine gs (gr (rn hA 3 ?_))
  have d9:(0:Int)≤n:=by
   omega
  have e5:(Int.toNat n) < List.length xs:=by
   omega
  obtain⟨x2,hx2⟩:∃ x,(xs)[(Int.toNat n)]? =some x:=⟨_,List.getElem?_eq_getElem e5⟩
  have f4:=List.mem_of_getElem? hx2
  have e2:d3[(Int.toNat n)]? =some [.ii x2]:=by
   exact map_at eInt d6 hx2
  have b8:=hx2
  rw[hn] at b8
  have b8:(xs)[i]? =some x2:=b8
  refine ops_step rfl rfl (idx_sl rfl rfl rfl rfl rfl d9 rfl e2) ?_
  refine rz hA 2 ?_
  refine gc (fun c3=> ?_) (fun c3=> ?_)
  ·
   have ec3:v=x2:=eql_t hA c3
   refine gx hA 2 ?_
   refine rt (gt ?_)
   refine congrArg (PV.int .i64) ?_
   rw[hE,ix_at b8]
   simp[ec1,ec3,hn]
  have ec3:v≠x2:=eql_f hA c3
  refine gk (gy hA 2 ?_)
  refine⟨(S150_1 d3 v (A.rlen d3) (A.num .add .i64 n 1)),List.length xs - (i+1),?_,by cbv,i+1,(A.num .add .i64 n 1),rfl,?_,rfl⟩
  ·
   omega
  refine⟨by rw[add_i64 hA (by omega) (by omega)];omega,by omega,?_⟩
  rw[hE,ix_at b8]
  simp[ec1,ec3,ec3.symm]
 have ec1:(A.rlen d3)≤n:=lss_f hA c1
 refine go_exit ⟨fun _=> ?_,fun h=>absurd rfl h⟩
 refine gx hA 1 ?_
 refine rt (gt ?_)
 refine congrArg (PV.int .i64) ?_
 rw[hE];exact ix_end (by omega)
theorem r_slices_Contains_int_int_ (A:Alg)(hA:A=std)(xs:List Int)(v:Int)(hx:(List.length xs:Int)≤4611686018427387904):Real Tryz.prog 129 [.sl 1 (List.map eInt xs),.ii v] (.bool (frB xs v)):=by
 obtain⟨d3,d6⟩:=nm (xs.map eInt)
 have f8:=rlen_map hA d6
 refine real_args (args':=[.sl 1 d3,.ii v]) (by subst d6;rfl) ?_
 refine real tyOk Tryz.func129 (by kernel_rfl) (afun_of rfl ?_)
 refine gx hA 1 ?_
 refine gs (gr (rn hA 2 ?_))
 obtain⟨f2,f7,hc2⟩:∃(f2:Int),f2=(ixF (fun x=>decide (x=v)) xs 0)∧Real Tryz.prog 150 [.sl 1 d3,.ii v] (.ii f2):=⟨_,rfl,by subst d6;exact r_slices_Index_int_int_ A hA xs v hx⟩
 refine cvw hc2 (.inr rfl) ?_
 refine rz hA 2 ?_
 refine rt (gt ?_)
 show _=(PV.bool (A.cmp .geq f2 0))
 refine congrArg PV.bool ?_
 rw[f7];exact(ix_any' hA _).symm
theorem r_impl_isFreed (A:Alg)(hA:A=std)(x:GStore)(v:Int)(hf:List.length x.Freed≤1048576):Real Tryz.prog 92 [.agg (eStore x),.ii v] (.bool (frB x.Freed v)):=by
 obtain⟨⟨⟨a8,b0⟩,b3,a0,a6,a7,b1,a3⟩,a5⟩:=x
 obtain⟨a1,a9⟩:=nm (a8.map eString)
 have c2:=rlen_map hA a9
 obtain⟨a2,b2⟩:=nm (b0.map eWrite)
 have c9:=rlen_map hA b2
 obtain⟨a4,b5⟩:=nm (a0.map eSeg)
 have d4:=rlen_map hA b5
 obtain⟨b4,b6⟩:=nm (a5.map eInt)
 have d5:=rlen_map hA b6
 refine real_args (args':=[.agg [.sl 1 a1,.sl 2 a2,.ii b3,.sl 4 a4,.ii a6,.ii a7,.ii b1,.ii a3,.sl 1 b4],.ii v]) (by subst a9 b2 b5 b6;rfl) ?_
 have hf:List.length a5≤1048576:=hf
 refine real tyOk Tryz.func92 (by kernel_rfl) (afun_of rfl ?_)
 refine gx hA 2 ?_
 refine gs (gr (rn hA 3 ?_))
 obtain⟨f3,f6,hc2⟩:∃(f3:Bool),f3=(frB a5 v)∧Real Tryz.prog 129 [.sl 1 b4,.ii v] (.bool f3):=⟨_,rfl,by subst b6;exact r_slices_Contains_int_int_ A hA a5 v (by omega)⟩
 refine cvw hc2 (.inr rfl) ?_
 refine rz hA 1 ?_
 refine rt (gt ?_)
 show _=(PV.bool f3)
 exact congrArg PV.bool f6.symm
def S51_1 (p0:Int)(p1:Int)(p2:RR)(p3:RR)(p4:Int)(p5:RR)(p6:Int)(p7:Int)(p8:Int)(p9:Int)(p10:RR):St:={sl:=[.bad,.ii p0,.pt 2 0 0,.bad,.bad,.ii p1,.bad,.bad,.bad,.bad,.bad,.bad,.bad,.bad,.bad,.bad,.bad,.bad,.bad,.bad],bl:=[(2,⟨.var,9,[[.sl 1 p2,.sl 2 p3,.ii p4,.sl 4 p5,.ii p6,.ii p7,.ii p8,.ii p9,.sl 1 p10]]⟩)]}
theorem r_spec_l12Freed (A:Alg)(hA:A=std)(x:GStore)(v:Int)(hf:List.length x.Freed≤1048576):Real Tryz.prog 51 [.agg (eStore x),.ii v] (.bool (frB x.Freed v)):=by
 obtain⟨⟨⟨a8,b0⟩,b3,a0,a6,a7,b1,a3⟩,a5⟩:=x
 obtain⟨a1,a9⟩:=nm (a8.map eString)
 have c2:=rlen_map hA a9
 obtain⟨a2,b2⟩:=nm (b0.map eWrite)
 have c9:=rlen_map hA b2
 obtain⟨a4,b5⟩:=nm (a0.map eSeg)
 have d4:=rlen_map hA b5
 obtain⟨b4,b6⟩:=nm (a5.map eInt)
 have d5:=rlen_map hA b6
 refine real_args (args':=[.agg [.sl 1 a1,.sl 2 a2,.ii b3,.sl 4 a4,.ii a6,.ii a7,.ii b1,.ii a3,.sl 1 b4],.ii v]) (by subst a9 b2 b5 b6;rfl) ?_
 have hf:List.length a5≤1048576:=hf
 refine real tyOk Tryz.func51 (by kernel_rfl) (afun_of rfl ?_)
 refine gx hA 2 ?_
 refine gs (gx hA 1 ?_)
 refine go_block ?_
 refine go_loopE (fun σ m=>∃(i:Nat) (n:Int),σ=(S51_1 v n a1 a2 b3 a4 a6 a7 b1 a3 b4)∧(n=(i:Int)∧i≤List.length a5∧List.any a5 (fun x=>decide (x=v))=List.any (List.drop i a5) (fun x=>decide (x=v)))∧m=List.length a5 - i) _ [.up 2] [1,2,5] [2] (S51_1 v 0 a1 a2 b3 a4 a6 a7 b1 a3 b4) rfl (by cbv) ⟨0,0,rfl,?_,rfl⟩ (fun σ m hI=> ?_)
 ·
  exact⟨rfl,Nat.zero_le _,rfl⟩
 obtain⟨i,n,rfl,⟨hn,hi,hE⟩,rfl⟩:=hI
 refine gs (gx hA 5 ?_)
 refine gc (fun c1=> ?_) (fun c1=> ?_)
 ·
  have ec1:n < (A.rlen b4):=lss_t hA c1
  refine gk (gs ?_)
  refine go_block ?_
  refine gs (gr (rn hA 3 ?_))
  have d9:(0:Int)≤n:=by
   omega
  have e5:(Int.toNat n) < List.length a5:=by
   omega
  obtain⟨x2,hx2⟩:∃ x,(a5)[(Int.toNat n)]? =some x:=⟨_,List.getElem?_eq_getElem e5⟩
  have f4:=List.mem_of_getElem? hx2
  have e2:b4[(Int.toNat n)]? =some [.ii x2]:=by
   exact map_at eInt b6 hx2
  have b8:=hx2
  rw[hn] at b8
  have b8:(a5)[i]? =some x2:=b8
  refine ops_step rfl rfl (idx_sl rfl rfl rfl rfl rfl d9 rfl e2) ?_
  refine rz hA 3 ?_
  refine gc (fun c3=> ?_) (fun c3=> ?_)
  ·
   have ec3:x2=v:=eql_t hA c3
   refine gx hA 1 ?_
   refine rt (gt ?_)
   refine congrArg PV.bool ?_
   show List.any a5 (fun x=>decide (x=v))=_
   rw[hE,any_at b8]
   simp[ec1,ec3]
  have ec3:x2≠v:=eql_f hA c3
  refine gk (gy hA 3 ?_)
  refine⟨(S51_1 v (A.num .add .i64 n 1) a1 a2 b3 a4 a6 a7 b1 a3 b4),List.length a5 - (i+1),?_,by cbv,i+1,(A.num .add .i64 n 1),rfl,?_,rfl⟩
  ·
   omega
  refine⟨by rw[add_i64 hA (by omega) (by omega)];omega,by omega,?_⟩
  rw[hE,any_at b8]
  simp[ec1,ec3,ec3.symm]
 have ec1:(A.rlen b4)≤n:=lss_f hA c1
 refine go_exit ⟨fun _=> ?_,fun h=>absurd rfl h⟩
 refine gx hA 1 ?_
 refine rt (gt ?_)
 refine congrArg PV.bool ?_
 show List.any a5 (fun x=>decide (x=v))=_
 rw[hE,List.drop_of_length_le (by omega)];rfl
def S94_1 (p0:RR)(p1:Int)(p2:Int)(p3:RR)(p4:RR)(p5:Int)(p6:Int)(p7:Int)(p8:Int)(p9:Int)(p10:RR)(p11:RR):St:={sl:=[.bad,.pt 1 0 0,.bad,.own 6,.bad,.bad,.bad,.bad,.bad,.sl 4 p0,.ii p1,.ii p2,.bad,.bad,.bad,.bad,.bad,.bad,.bad,.bad,.bad,.bad,.bad,.bad,.bad,.bad],bl:=[(1,⟨.var,9,[[.sl 1 p3,.sl 2 p4,.ii p5,.sl 4 p0,.ii p6,.ii p7,.ii p8,.ii p9,.sl 1 p10]]⟩),(6,⟨.arr,9,p11⟩)]}
theorem r_impl_keptItems (A:Alg)(hA:A=std)(x:GStore)(hz:∀ q∈zsStore x,q≤1048576)(hil:(itemsL x.Log.Used).length≤1048576):Real Tryz.prog 94 [.agg (eStore x)] (.ow 9 (List.map eoItem (keptL x.Freed x.Log.Used))):=by
 obtain⟨⟨⟨a8,b0⟩,b3,a0,a6,a7,b1,a3⟩,a5⟩:=x
 obtain⟨a1,a9⟩:=nm (a8.map eString)
 have c2:=rlen_map hA a9
 obtain⟨a2,b2⟩:=nm (b0.map eWrite)
 have c9:=rlen_map hA b2
 obtain⟨a4,b5⟩:=nm (a0.map eSeg)
 have d4:=rlen_map hA b5
 obtain⟨b4,b6⟩:=nm (a5.map eInt)
 have d5:=rlen_map hA b6
 refine real_args (args':=[.agg [.sl 1 a1,.sl 2 a2,.ii b3,.sl 4 a4,.ii a6,.ii a7,.ii b1,.ii a3,.sl 1 b4]]) (by subst a9 b2 b5 b6;rfl) ?_
 have d8:∀ q∈zsLog (⟨⟨a8,b0⟩,b3,a0,a6,a7,b1,a3⟩:GLog),q≤1048576:=fun q hq=>hz q (by simp only[zsStore,List.mem_append];simp only[hq,true_or,or_true])
 have d1:∀ q∈zsDisk (⟨a8,b0⟩:GDisk),q≤1048576:=fun q hq=>d8 q (by simp only[zsLog,List.mem_append];simp only[hq,true_or,or_true])
 have c7:∀ q∈zsStringS a8,q≤1048576:=fun q hq=>d1 q (by simp only[zsDisk,List.mem_append];simp only[hq,true_or,or_true])
 have d7:List.length a8≤1048576:=c7 _ (by simp[zsStringS])
 have d0:∀ q∈zsWriteS b0,q≤1048576:=fun q hq=>d1 q (by simp only[zsDisk,List.mem_append];simp only[hq,true_or,or_true])
 have e3:List.length b0≤1048576:=d0 _ (by simp[zsWriteS])
 have d2:∀ q∈zsSegS a0,q≤1048576:=fun q hq=>d8 q (by simp only[zsLog,List.mem_append];simp only[hq,true_or,or_true])
 have f1:List.length a0≤1048576:=d2 _ (by simp[zsSegS])
 have e4:∀ q∈zsIntS a5,q≤1048576:=fun q hq=>hz q (by simp only[zsStore,List.mem_append];simp only[hq,true_or,or_true])
 have f5:List.length a5≤1048576:=e4 _ (by simp[zsIntS])
 have hil:(itemsL a0).length≤1048576:=hil
 have hzs:=zs_itemsL d2 hil
 have hzk:∀ q∈zsItemS (keptL a5 a0),q≤1048576:=zs_kept hzs
 have hki:=keptL_items a5 a0
 refine real tyOk Tryz.func94 (by kernel_rfl) (afun_of rfl ?_)
 refine gx hA 2 ?_
 refine gx hA 2 ?_
 refine gs (gx hA 5 ?_)
 refine go_block ?_
 refine go_loopE (fun σ m=>∃(i:Nat) (n:Int) (R:RR),σ=(S94_1 a4 (A.rlen a4) n a1 a2 b3 a6 a7 b1 a3 b4 R)∧(n=(i:Int)∧i≤List.length a0∧R=List.map eoItem (keptL a5 (a0.take i)))∧m=List.length a0 - i) _ [.up 6,.up 1] [1,3,9,10,11] [1,6] (S94_1 a4 (A.rlen a4) 0 a1 a2 b3 a6 a7 b1 a3 b4 ([])) rfl (by cbv) ⟨0,0,[],rfl,?_,rfl⟩ (fun σ m hI=> ?_)
 ·
  exact⟨rfl,Nat.zero_le _,rfl⟩
 obtain⟨i,n,R,rfl,⟨hn,hi,hR⟩,rfl⟩:=hI
 refine gx hA 1 ?_
 refine gs ?_
 refine gc (fun c1=> ?_) (fun c1=> ?_)
 ·
  have ec1:n < (A.rlen a4):=lss_t hA c1
  refine gk (gs ?_)
  refine go_block ?_
  refine gs (gr ?_)
  have d9:(0:Int)≤n:=by
   omega
  have e5:(Int.toNat n) < List.length a0:=by
   omega
  obtain⟨x2,hx2⟩:∃ x,(a0)[(Int.toNat n)]? =some x:=⟨_,List.getElem?_eq_getElem e5⟩
  have f4:=List.mem_of_getElem? hx2
  obtain⟨c0,e0,e1,c4⟩:=x2
  obtain⟨b9,b7⟩:=nm (c4.map eItem)
  have f0:=rlen_map hA b7
  have e2:a4[(Int.toNat n)]? =some [.ii c0,.ii e0,.ii e1,.sl 9 b9]:=by
   subst b7;exact map_at eSeg b5 hx2
  have b8:=hx2
  rw[hn] at b8
  have b8:(a0)[i]? =some (⟨c0,e0,e1,c4⟩:GSeg):=b8
  refine ops_step rfl rfl (idx_sl rfl rfl rfl rfl rfl d9 rfl e2) ?_
  refine rz hA 3 ?_
  refine gs (gr (rn hA 3 ?_))
  obtain⟨e6,e8,hc4⟩:∃(e6:Bool),e6=(frB a5 c0)∧Real Tryz.prog 92 [.agg [.sl 1 a1,.sl 2 a2,.ii b3,.sl 4 a4,.ii a6,.ii a7,.ii b1,.ii a3,.sl 1 b4],.ii c0] (.bool e6):=⟨_,rfl,by subst a9 b2 b5 b6;exact r_impl_isFreed A hA (⟨⟨⟨a8,b0⟩,b3,a0,a6,a7,b1,a3⟩,a5⟩:GStore) c0 (by assumption)⟩
  refine cvw hc4 (.inr rfl) ?_
  refine rz hA 1 ?_
  refine gc (fun c5=> ?_) (fun c5=> ?_)
  ·
   have c6:e6=false:=bnot_t hA c5
   refine gr (rn hA 3 ?_)
   obtain⟨r7,hr7⟩:=nm (R++b9:RR)
   have er7:r7=List.map eoItem ((keptL a5 (a0.take i))++c4):=by rw[hr7];exact app_eq hR b7
   have lr7:=rlen_map hA er7
   refine ops_step rfl rfl (app_own rfl rfl rfl rfl rfl rfl rfl rfl hr7 (by cbv) (by cbv) (by cbv) rfl (by
    show(List.length R+List.length b9) * _≤_
    have h1:=kept_room b8 (show frB a5 c0=false by rw[← e8,c6])
    have h1:(keptL a5 (a0.take i)).length+List.length c4≤(keptL a5 a0).length:=h1
    show(List.length R+List.length b9) * 96≤_
    rw[hR,b7,List.length_map,List.length_map];omega) (by decide) (by decide)) ?_
   refine rz hA 1 ?_
   refine gy hA 2 ?_
   refine⟨(S94_1 a4 (A.rlen a4) (A.num .add .i64 n 1) a1 a2 b3 a6 a7 b1 a3 b4 r7),List.length a0 - (i+1),?_,by cbv,i+1,(A.num .add .i64 n 1),r7,rfl,?_,rfl⟩
   ·
    omega
   refine⟨by rw[add_i64 hA (by omega) (by omega)];omega,by omega,?_⟩
   rw[keptL_at b8,if_neg (by show ¬ (frB a5 c0=true);rw[← e8,c6];decide)]
   exact er7
  have c8:e6=true:=bnot_f hA c5
  refine gk (gy hA 2 ?_)
  refine⟨(S94_1 a4 (A.rlen a4) (A.num .add .i64 n 1) a1 a2 b3 a6 a7 b1 a3 b4 R),List.length a0 - (i+1),?_,by cbv,i+1,(A.num .add .i64 n 1),R,rfl,?_,rfl⟩
  ·
   omega
  refine⟨by rw[add_i64 hA (by omega) (by omega)];omega,by omega,?_⟩
  rw[keptL_at b8,if_pos (by show frB a5 c0=true;rw[← e8,c8])]
  exact hR
 have ec1:(A.rlen a4)≤n:=lss_f hA c1
 refine go_exit ⟨fun _=> ?_,fun h=>absurd rfl h⟩
 refine gx hA 2 ?_
 refine rt (gt ?_)
 refine congrArg (PV.ow 9) ?_
 rw[hR,List.take_of_length_le (by omega)]
def S50_1 (p0:Int)(p1:RR)(p2:RR)(p3:Int)(p4:RR)(p5:Int)(p6:Int)(p7:Int)(p8:Int)(p9:RR)(p10:RR):St:={sl:=[.bad,.pt 1 0 0,.bad,.own 5,.ii p0,.bad,.bad,.bad,.bad,.bad,.bad,.bad,.bad,.bad,.bad,.bad,.bad,.bad,.bad,.bad,.bad,.bad,.bad,.bad,.bad,.bad,.bad,.bad,.bad,.bad,.bad,.bad,.bad,.bad],bl:=[(1,⟨.var,9,[[.sl 1 p1,.sl 2 p2,.ii p3,.sl 4 p4,.ii p5,.ii p6,.ii p7,.ii p8,.sl 1 p9]]⟩),(5,⟨.arr,9,p10⟩)]}
theorem r_spec_l12Kept (A:Alg)(hA:A=std)(x:GStore)(hz:∀ q∈zsStore x,q≤1048576)(hil:(itemsL x.Log.Used).length≤1048576):Real Tryz.prog 50 [.agg (eStore x)] (.ow 9 (List.map eoItem (keptL x.Freed x.Log.Used))):=by
 obtain⟨⟨⟨a8,b0⟩,b3,a0,a6,a7,b1,a3⟩,a5⟩:=x
 obtain⟨a1,a9⟩:=nm (a8.map eString)
 have c2:=rlen_map hA a9
 obtain⟨a2,b2⟩:=nm (b0.map eWrite)
 have c9:=rlen_map hA b2
 obtain⟨a4,b5⟩:=nm (a0.map eSeg)
 have d4:=rlen_map hA b5
 obtain⟨b4,b6⟩:=nm (a5.map eInt)
 have d5:=rlen_map hA b6
 refine real_args (args':=[.agg [.sl 1 a1,.sl 2 a2,.ii b3,.sl 4 a4,.ii a6,.ii a7,.ii b1,.ii a3,.sl 1 b4]]) (by subst a9 b2 b5 b6;rfl) ?_
 have d8:∀ q∈zsLog (⟨⟨a8,b0⟩,b3,a0,a6,a7,b1,a3⟩:GLog),q≤1048576:=fun q hq=>hz q (by simp only[zsStore,List.mem_append];simp only[hq,true_or,or_true])
 have d1:∀ q∈zsDisk (⟨a8,b0⟩:GDisk),q≤1048576:=fun q hq=>d8 q (by simp only[zsLog,List.mem_append];simp only[hq,true_or,or_true])
 have c7:∀ q∈zsStringS a8,q≤1048576:=fun q hq=>d1 q (by simp only[zsDisk,List.mem_append];simp only[hq,true_or,or_true])
 have d7:List.length a8≤1048576:=c7 _ (by simp[zsStringS])
 have d0:∀ q∈zsWriteS b0,q≤1048576:=fun q hq=>d1 q (by simp only[zsDisk,List.mem_append];simp only[hq,true_or,or_true])
 have e3:List.length b0≤1048576:=d0 _ (by simp[zsWriteS])
 have d2:∀ q∈zsSegS a0,q≤1048576:=fun q hq=>d8 q (by simp only[zsLog,List.mem_append];simp only[hq,true_or,or_true])
 have f1:List.length a0≤1048576:=d2 _ (by simp[zsSegS])
 have e4:∀ q∈zsIntS a5,q≤1048576:=fun q hq=>hz q (by simp only[zsStore,List.mem_append];simp only[hq,true_or,or_true])
 have f5:List.length a5≤1048576:=e4 _ (by simp[zsIntS])
 have hil:(itemsL a0).length≤1048576:=hil
 have hzs:=zs_itemsL d2 hil
 have hzk:∀ q∈zsItemS (keptL a5 a0),q≤1048576:=zs_kept hzs
 have hki:=keptL_items a5 a0
 refine real tyOk Tryz.func50 (by kernel_rfl) (afun_of rfl ?_)
 refine gx hA 2 ?_
 refine gx hA 2 ?_
 refine gs (gx hA 1 ?_)
 refine go_block ?_
 refine go_loopE (fun σ m=>∃(i:Nat) (n:Int) (R:RR),σ=(S50_1 n a1 a2 b3 a4 a6 a7 b1 a3 b4 R)∧(n=(i:Int)∧i≤List.length a0∧R=List.map eoItem (keptL a5 (a0.take i)))∧m=List.length a0 - i) _ [.up 5,.up 1] [1,3,4] [1,5] (S50_1 0 a1 a2 b3 a4 a6 a7 b1 a3 b4 ([])) rfl (by cbv) ⟨0,0,[],rfl,?_,rfl⟩ (fun σ m hI=> ?_)
 ·
  exact⟨rfl,Nat.zero_le _,rfl⟩
 obtain⟨i,n,R,rfl,⟨hn,hi,hR⟩,rfl⟩:=hI
 refine gs (gx hA 6 ?_)
 refine gc (fun c1=> ?_) (fun c1=> ?_)
 ·
  have ec1:n < (A.rlen a4):=lss_t hA c1
  refine gk (gs ?_)
  refine go_block ?_
  refine gs ?_
  refine go_draw [0,1,2,3,4,5,6,7,8,9] (by cbv) ?_
  refine dn_ hA 5 ?_
  have d9:(0:Int)≤n:=by
   omega
  have e5:(Int.toNat n) < List.length a0:=by
   omega
  obtain⟨x2,hx2⟩:∃ x,(a0)[(Int.toNat n)]? =some x:=⟨_,List.getElem?_eq_getElem e5⟩
  have f4:=List.mem_of_getElem? hx2
  obtain⟨c0,e0,e1,c4⟩:=x2
  obtain⟨b9,b7⟩:=nm (c4.map eItem)
  have f0:=rlen_map hA b7
  have e2:a4[(Int.toNat n)]? =some [.ii c0,.ii e0,.ii e1,.sl 9 b9]:=by
   subst b7;exact map_at eSeg b5 hx2
  have b8:=hx2
  rw[hn] at b8
  have b8:(a0)[i]? =some (⟨c0,e0,e1,c4⟩:GSeg):=b8
  refine dops_step rfl rfl rfl (idx_sl rfl rfl rfl rfl rfl d9 rfl e2) ?_
  refine dn_ hA 2 ?_
  obtain⟨e7,e9,hc4⟩:∃(e7:Bool),e7=(frB a5 c0)∧Real Tryz.prog 51 [.agg [.sl 1 a1,.sl 2 a2,.ii b3,.sl 4 a4,.ii a6,.ii a7,.ii b1,.ii a3,.sl 1 b4],.ii c0] (.bool e7):=⟨_,rfl,by subst a9 b2 b5 b6;exact r_spec_l12Freed A hA (⟨⟨⟨a8,b0⟩,b3,a0,a6,a7,b1,a3⟩,a5⟩:GStore) c0 (by assumption)⟩
  refine dops_callV rfl rfl (by cbv) (by cbv) hc4 (.inr rfl) ?_
  refine dz hA 1 ?_
  refine gc (fun c5=> ?_) (fun c5=> ?_)
  ·
   have c6:e7=false:=bnot_t hA c5
   refine gr (rn hA 5 ?_)
   refine ops_step rfl rfl (idx_sl rfl rfl rfl rfl rfl d9 rfl e2) ?_
   refine rn hA 2 ?_
   obtain⟨r7,hr7⟩:=nm (R++b9:RR)
   have er7:r7=List.map eoItem ((keptL a5 (a0.take i))++c4):=by rw[hr7];exact app_eq hR b7
   have lr7:=rlen_map hA er7
   refine ops_step rfl rfl (app_own rfl rfl rfl rfl rfl rfl rfl rfl hr7 (by cbv) (by cbv) (by cbv) rfl (by
    show(List.length R+List.length b9) * _≤_
    have h1:=kept_room b8 (show frB a5 c0=false by rw[← e9,c6])
    have h1:(keptL a5 (a0.take i)).length+List.length c4≤(keptL a5 a0).length:=h1
    show(List.length R+List.length b9) * 96≤_
    rw[hR,b7,List.length_map,List.length_map];omega) (by decide) (by decide)) ?_
   refine rz hA 1 ?_
   refine gy hA 3 ?_
   refine⟨(S50_1 (A.num .add .i64 n 1) a1 a2 b3 a4 a6 a7 b1 a3 b4 r7),List.length a0 - (i+1),?_,by cbv,i+1,(A.num .add .i64 n 1),r7,rfl,?_,rfl⟩
   ·
    omega
   refine⟨by rw[add_i64 hA (by omega) (by omega)];omega,by omega,?_⟩
   rw[keptL_at b8,if_neg (by show ¬ (frB a5 c0=true);rw[← e9,c6];decide)]
   exact er7
  have c8:e7=true:=bnot_f hA c5
  refine gk (gy hA 3 ?_)
  refine⟨(S50_1 (A.num .add .i64 n 1) a1 a2 b3 a4 a6 a7 b1 a3 b4 R),List.length a0 - (i+1),?_,by cbv,i+1,(A.num .add .i64 n 1),R,rfl,?_,rfl⟩
  ·
   omega
  refine⟨by rw[add_i64 hA (by omega) (by omega)];omega,by omega,?_⟩
  rw[keptL_at b8,if_pos (by show frB a5 c0=true;rw[← e9,c8])]
  exact hR
 have ec1:(A.rlen a4)≤n:=lss_f hA c1
 refine go_exit ⟨fun _=> ?_,fun h=>absurd rfl h⟩
 refine gx hA 2 ?_
 refine rt (gt ?_)
 refine congrArg (PV.ow 9) ?_
 rw[hR,List.take_of_length_le (by omega)]
end Go.Av
