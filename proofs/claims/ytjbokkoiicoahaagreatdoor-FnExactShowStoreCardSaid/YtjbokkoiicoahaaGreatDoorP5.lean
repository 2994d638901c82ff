/- Walks: the reference on what lives. -/
import Derived.Test.YtjbokkoiicoahaaGreatDoorP2
import Derived.Test.YtjbokkoiicoahaaGreatDoorO5
namespace Go.Av
open Go Go.Proofs
set_option maxRecDepth 100000
set_option maxHeartbeats 4000000
set_option linter.unusedVariables false
set_option linter.unusedSimpArgs false
def S28_1 (p0:Int)(p1:Int)(p2:RR)(p3:RR)(p4:Int)(p5:RR)(p6:Int)(p7:Int)(p8:Int)(p9:Int)(p10:RR)(p11:RR)(p12:RR):St:={sl:=[.bad,.pt 1 0 0,.bad,.own 13,.own 14,.ii p0,.ii p1,.bad,.bad,.bad,.bad,.bad,.bad,.bad,.bad,.bad,.bad,.bad,.bad,.bad,.bad,.bad,.bad,.bad,.bad,.bad,.bad,.bad,.bad,.bad,.bad,.bad,.bad,.bad,.bad,.bad,.bad,.bad,.bad,.bad,.bad,.bad,.bad,.bad,.bad,.bad,.bad,.bad,.bad,.bad,.bad,.bad,.bad,.bad,.bad,.bad,.bad,.bad,.bad,.bad,.bad,.bad,.bad,.bad,.bad,.bad,.bad,.bad,.bad,.bad,.bad,.bad,.bad,.bad,.bad,.bad,.bad,.bad,.bad,.bad,.bad,.bad,.bad],bl:=[(1,⟨.var,9,[[.sl 1 p2,.sl 2 p3,.ii p4,.sl 4 p5,.ii p6,.ii p7,.ii p8,.ii p9,.sl 1 p10]]⟩),(13,⟨.arr,1,p11⟩),(14,⟨.arr,1,p12⟩)]}
def S28_2 (p0:Int)(p1:Int)(p2:Int)(p3:Int)(p4:RR)(p5:RR)(p6:Int)(p7:RR)(p8:Int)(p9:Int)(p10:Int)(p11:Int)(p12:RR)(p13:RR)(p14:RR):St:={sl:=[.bad,.pt 1 0 0,.bad,.own 13,.own 14,.ii p0,.ii p1,.ii p2,.ii p3,.bad,.bad,.bad,.bad,.bad,.bad,.bad,.bad,.bad,.bad,.bad,.bad,.bad,.bad,.bad,.bad,.bad,.bad,.bad,.bad,.bad,.bad,.bad,.bad,.bad,.bad,.bad,.bad,.bad,.bad,.bad,.bad,.bad,.bad,.bad,.bad,.bad,.bad,.bad,.bad,.bad,.bad,.bad,.bad,.bad,.bad,.bad,.bad,.bad,.bad,.bad,.bad,.bad,.bad,.bad,.bad,.bad,.bad,.bad,.bad,.bad,.bad,.bad,.bad,.bad,.bad,.bad,.bad,.bad,.bad,.bad,.bad,.bad,.bad],bl:=[(1,⟨.var,9,[[.sl 1 p4,.sl 2 p5,.ii p6,.sl 4 p7,.ii p8,.ii p9,.ii p10,.ii p11,.sl 1 p12]]⟩),(13,⟨.arr,1,p13⟩),(14,⟨.arr,1,p14⟩)]}
theorem r_spec_l13Sizes (A:Alg)(hA:A=std)(x:GStore)(hz:∀ q∈zsStore x,q≤1048576)(hil:(itemsL x.Log.Used).length≤1048576):Real Tryz.prog 28 [.agg (eStore x)] (.ow 1 (List.map eInt (sizL x.Freed x.Log.Used (List.length x.Log.Used)))):=by
 obtain⟨⟨⟨c0,d2⟩,d6,a0,a7,a8,c2,a5⟩,a1⟩:=x
 obtain⟨a4,e9⟩:=nm (c0.map eString)
 have k1:=rlen_map hA e9
 obtain⟨a6,g0⟩:=nm (d2.map eWrite)
 have l2:=rlen_map hA g0
 obtain⟨a3,g5⟩:=nm (a0.map eSeg)
 have m1:=rlen_map hA g5
 obtain⟨g1,i1⟩:=nm (a1.map eInt)
 have n0:=rlen_map hA i1
 refine real_args (args':=[.agg [.sl 1 a4,.sl 2 a6,.ii d6,.sl 4 a3,.ii a7,.ii a8,.ii c2,.ii a5,.sl 1 g1]]) (by subst e9 g0 g5 i1;rfl) ?_
 have l4:∀ q∈zsLog (⟨⟨c0,d2⟩,d6,a0,a7,a8,c2,a5⟩:GLog),q≤1048576:=fun q hq=>hz q (by simp only[zsStore,List.mem_append];simp only[hq,true_or,or_true])
 have j4:∀ q∈zsDisk (⟨c0,d2⟩:GDisk),q≤1048576:=fun q hq=>l4 q (by simp only[zsLog,List.mem_append];simp only[hq,true_or,or_true])
 have i8:∀ q∈zsStringS c0,q≤1048576:=fun q hq=>j4 q (by simp only[zsDisk,List.mem_append];simp only[hq,true_or,or_true])
 have l3:List.length c0≤1048576:=i8 _ (by simp[zsStringS])
 have j2:∀ q∈zsWriteS d2,q≤1048576:=fun q hq=>j4 q (by simp only[zsDisk,List.mem_append];simp only[hq,true_or,or_true])
 have l6:List.length d2≤1048576:=j2 _ (by simp[zsWriteS])
 have j3:∀ q∈zsSegS a0,q≤1048576:=fun q hq=>l4 q (by simp only[zsLog,List.mem_append];simp only[hq,true_or,or_true])
 have m6:List.length a0≤1048576:=j3 _ (by simp[zsSegS])
 have l7:∀ q∈zsIntS a1,q≤1048576:=fun q hq=>hz q (by simp only[zsStore,List.mem_append];simp only[hq,true_or,or_true])
 have n8:List.length a1≤1048576:=l7 _ (by simp[zsIntS])
 have hil:(itemsL a0).length≤1048576:=hil
 have hzs:=zs_itemsL j3 hil
 have hzk:∀ q∈zsItemS (keptL a1 a0),q≤1048576:=zs_kept hzs
 have hki:=keptL_items a1 a0
 refine real tyOk Tryz.func28 (by kernel_rfl) (afun_of rfl ?_)
 refine gx hA 2 ?_
 refine gs (gr (rn hA 1 ?_))
 obtain⟨m4,n4,hc2⟩:∃(m4:RR),m4=List.map eoItem (keptL a1 a0)∧Real Tryz.prog 50 [.agg [.sl 1 a4,.sl 2 a6,.ii d6,.sl 4 a3,.ii a7,.ii a8,.ii c2,.ii a5,.sl 1 g1]] (.ow 9 m4):=⟨_,rfl,by subst e9 g0 g5 i1;exact r_spec_l12Kept A hA (⟨⟨⟨c0,d2⟩,d6,a0,a7,a8,c2,a5⟩,a1⟩:GStore) (by assumption) hil⟩
 have r7:=rlen_map hA n4
 refine cvw hc2 (.inr rfl) ?_
 obtain⟨i0,l8,hc4⟩:∃(i0:RR),i0=List.map eBool (needL (keptL a1 a0) (List.length (keptL a1 a0)))∧Real Tryz.prog 49 [.sl 9 (eraseR m4)] (.ow 1 i0):=⟨_,rfl,by subst n4;simp only[erR_Item];exact r_spec_NeededAll A hA (keptL a1 a0) (by assumption)⟩
 have r8:=rlen_map hA l8
 refine cvw hc4 (.inl (by simp only[fresh,freshL,l8,frR_Bool,and_self])) ?_
 refine rz hA 1 ?_
 refine gx hA 2 ?_
 refine gx hA 1 ?_
 refine gs (gx hA 1 ?_)
 refine go_block ?_
 refine go_loopE (fun σ m=>∃(i:Nat) (n:Int) (at1:Int) (R:RR),σ=(S28_1 at1 n a4 a6 d6 a3 a7 a8 c2 a5 g1 i0 R)∧(n=(i:Int)∧i≤List.length a0∧R=List.map eInt (sizL a1 a0 i)∧at1=((keptL a1 (List.take i a0)).length:Int))∧m=List.length a0 - i) _ [.up 14,.up 13,.up 12,.up 1] [1,3,4,5,6] [1,13,14] (S28_1 0 0 a4 a6 d6 a3 a7 a8 c2 a5 g1 i0 ([])) rfl (by cbv) ⟨0,0,0,[],rfl,?_,rfl⟩ (fun σ m hI=> ?_)
 ·
  exact⟨rfl,Nat.zero_le _,rfl,rfl⟩
 obtain⟨i,n,at1,R,rfl,⟨hn,hi,hR,hat⟩,rfl⟩:=hI
 refine gs (gx hA 6 ?_)
 refine gc (fun c5=> ?_) (fun c5=> ?_)
 ·
  have ec5:n < (A.rlen a3):=lss_t hA c5
  refine gk (gs ?_)
  refine go_block ?_
  refine gx hA 1 ?_
  refine gs (gs ?_)
  refine go_draw [0,1,2,3,4,5,6,7,8] (by cbv) ?_
  refine dn_ hA 5 ?_
  have l9:(0:Int)≤n:=by
   omega
  have r1:(Int.toNat n) < List.length a0:=by
   omega
  obtain⟨x6,hx6⟩:∃ x,(a0)[(Int.toNat n)]? =some x:=⟨_,List.getElem?_eq_getElem r1⟩
  have r5:=List.mem_of_getElem? hx6
  obtain⟨g7,e7,g6,g2⟩:=x6
  obtain⟨a2,j8⟩:=nm (g2.map eItem)
  have q1:=rlen_map hA j8
  have m0:a3[(Int.toNat n)]? =some [.ii g7,.ii e7,.ii g6,.sl 9 a2]:=by
   subst j8;exact map_at eSeg g5 hx6
  have j6:=hx6
  rw[hn] at j6
  have j6:a0[i]? =some (⟨g7,e7,g6,g2⟩:GSeg):=j6
  have hzi:∀ y∈g2,∀ q∈zsRec y.Rec,q≤1048576:=fun y hy q hq=>hzs q (List.mem_cons_of_mem _ (List.mem_flatMap.2 ⟨y,List.mem_flatMap.2 ⟨_,r5,hy⟩,by simp only[zsItem,List.mem_append];exact .inl hq⟩))
  have hli:List.length g2≤1048576:=by
   have h2:=itemsL_le a0 (i+1)
   rw[itemsL_at j6,List.length_append] at h2
   have h2:(itemsL (a0.take i)).length+List.length g2≤(itemsL a0).length:=h2
   omega
  refine dops_step rfl rfl rfl (idx_sl rfl rfl rfl rfl rfl l9 rfl m0) ?_
  refine dn_ hA 2 ?_
  obtain⟨n1,n3,hc8⟩:∃(n1:Bool),n1=(frB a1 g7)∧Real Tryz.prog 51 [.agg [.sl 1 a4,.sl 2 a6,.ii d6,.sl 4 a3,.ii a7,.ii a8,.ii c2,.ii a5,.sl 1 g1],.ii g7] (.bool n1):=⟨_,rfl,by subst e9 g0 g5 i1;exact r_spec_l12Freed A hA (⟨⟨⟨c0,d2⟩,d6,a0,a7,a8,c2,a5⟩,a1⟩:GStore) g7 (by assumption)⟩
  refine dops_callV rfl rfl (by cbv) (by cbv) hc8 (.inr rfl) ?_
  refine dd_ ?_
  refine gc (fun c9=> ?_) (fun c9=> ?_)
  ·
   refine gs (gr (rn hA 2 ?_))
   obtain⟨r10,q0⟩:=nm (R++[[.ii 0]]:RR)
   have o9:r10=List.map eInt ((sizL a1 a0 i)++([(0:Int)])):=by rw[q0];exact app_eq hR (by rfl)
   have s3:=rlen_map hA o9
   refine ops_step rfl rfl (app_own rfl rfl rfl rfl rfl rfl rfl rfl q0 (by cbv) (by cbv) (by cbv) rfl (by
    show(List.length R+List.length ([[.ii 0]])) * _≤_
    have h5:=sizL_len a1 a0 i
    show(List.length R+1) * 8≤_
    rw[hR,List.length_map];omega) (by decide) (by decide)) ?_
   refine rz hA 1 ?_
   refine go_exit ⟨fun _=> ?_,fun h=>absurd rfl h⟩
   refine gy hA 3 ?_
   refine⟨(S28_1 at1 (A.num .add .i64 n 1) a4 a6 d6 a3 a7 a8 c2 a5 g1 i0 r10),List.length a0 - (i+1),?_,by cbv,i+1,(A.num .add .i64 n 1),at1,r10,rfl,?_,rfl⟩
   ·
    omega
   have hq1:=keptL_at (fr:=a1) j6
   have hsv:segL a1 a0 i=segV a1 a0 i _:=segL_some j6
   have hfr:frB a1 g7=true:=by rw[← n3,c9]
   rw[if_pos hfr] at hq1
   have hsz:segL a1 a0 i=0:=by rw[hsv,segV,if_pos hfr]
   refine⟨by rw[add_i64 hA (by omega) (by omega)];omega,by omega,?_,by rw[hq1];exact hat⟩
   rw[sizL_at,hsz]
   exact o9
  refine gk (gs (gs ?_))
  have hfr:frB a1 g7=false:=by rw[← n3,c9]
  have hrm:=kept_room j6 hfr
  have hrm:(keptL a1 (List.take i a0)).length+List.length g2≤(keptL a1 a0).length:=hrm
  have hnl:=needL_len (keptL a1 a0) (keptL a1 a0).length
  refine gy hA 1 ?_
  refine go_block ?_
  refine go_loopE (fun σ m=>∃(k:Nat) (n2:Int) (sm:Int) (at2:Int),σ=(S28_2 at2 n sm n2 a4 a6 d6 a3 a7 a8 c2 a5 g1 i0 R)∧(n2=(k:Int)∧k≤List.length g2∧sm=liveG (needL (keptL a1 a0) (List.length (keptL a1 a0))) (keptL a1 (List.take i a0)).length e7 g2 k∧at2=((keptL a1 (List.take i a0)).length:Int)+k)∧m=List.length g2 - k) _ [.up 14,.up 13,.up 1] [1,3,4,5,6,7,8] [1,13,14] (S28_2 at1 n 0 0 a4 a6 d6 a3 a7 a8 c2 a5 g1 i0 R) rfl (by cbv) ⟨0,0,0,at1,rfl,?_,rfl⟩ (fun σ m hI=> ?_)
  ·
   exact⟨rfl,Nat.zero_le _,rfl,by omega⟩
  obtain⟨k,n2,sm,at2,rfl,⟨hk,hkl,hs,s4⟩,rfl⟩:=hI
  refine gs (gs (gr (rn hA 5 ?_)))
  refine ops_step rfl rfl (idx_sl rfl rfl rfl rfl rfl l9 rfl m0) ?_
  refine rz hA 4 ?_
  refine gc (fun c11=> ?_) (fun c11=> ?_)
  ·
   have q9:n2 < (A.rlen a2):=lss_t hA c11
   refine gk (gs ?_)
   refine go_block ?_
   refine gs (gs (gr (rn hA 2 ?_)))
   have q4:(0:Int)≤at2:=by
    omega
   have q7:(Int.toNat at2) < List.length (needL (keptL a1 a0) (List.length (keptL a1 a0))):=by
    omega
   obtain⟨x12,n6⟩:∃ x,(needL (keptL a1 a0) (List.length (keptL a1 a0)))[(Int.toNat at2)]? =some x:=⟨_,List.getElem?_eq_getElem q7⟩
   have s0:=List.mem_of_getElem? n6
   have q5:i0[(Int.toNat at2)]? =some [.bool x12]:=by
    exact map_at eBool l8 n6
   have o0:ndB (needL (keptL a1 a0) (List.length (keptL a1 a0))) ((keptL a1 (List.take i a0)).length+k)=x12:=ndB_get (by have h:=n6;rw[show Int.toNat _=(keptL a1 (List.take i a0)).length+k by omega] at h;exact h)
   have o6:at2 < (List.length i0:Int):=by
    rw[l8,List.length_map];omega
   refine ops_step rfl rfl (idx_own rfl rfl rfl rfl rfl rfl q4 o6 rfl) ?_
   refine ops_step rfl rfl (ld_arr rfl rfl rfl rfl q5 rfl) ?_
   refine od ?_
   refine gc (fun c14=> ?_) (fun c14=> ?_)
   ·
    refine gs ?_
    have n9:(0:Int)≤n2:=by
     omega
    have q2:(Int.toNat n2) < List.length g2:=by
     omega
    obtain⟨x15,n5⟩:∃ x,(g2)[(Int.toNat n2)]? =some x:=⟨_,List.getElem?_eq_getElem q2⟩
    have q3:=List.mem_of_getElem? n5
    obtain⟨g4,⟨d4,c4,d9,d1,c6,d5,d0,d3⟩⟩:=x15
    have o1:a2[(Int.toNat n2)]? =some [.ii g4,.ii d4,.ii c4,.ii d9,.ii d1,.ii c6,.str d5,.str d0,.str d3]:=by
     exact map_at eItem j8 n5
    have m5:=n5
    rw[hk] at m5
    have m5:(g2)[k]? =some (⟨g4,⟨d4,c4,d9,d1,c6,d5,d0,d3⟩⟩:GItem):=m5
    have hzq:∀ q∈zsRec (GItem.Rec (⟨g4,⟨d4,c4,d9,d1,c6,d5,d0,d3⟩⟩:GItem)),q≤1048576:=hzi _ q3
    obtain⟨c8,c7,b9,g3,m3,m2,k0,q8,o5⟩:∃(c8:Int) (c7:Int) (b9:ByteArray) (g3:Bool),c8=((frI A (vtR A) (⟨g4,⟨d4,c4,d9,d1,c6,d5,d0,d3⟩⟩:GItem) e7).Gen)∧c7=((frI A (vtR A) (⟨g4,⟨d4,c4,d9,d1,c6,d5,d0,d3⟩⟩:GItem) e7).Seq)∧b9=((frI A (vtR A) (⟨g4,⟨d4,c4,d9,d1,c6,d5,d0,d3⟩⟩:GItem) e7).Body)∧g3=(frOk A (vtR A) (⟨g4,⟨d4,c4,d9,d1,c6,d5,d0,d3⟩⟩:GItem) e7)∧Real Tryz.prog 52 [.agg [.ii g4,.ii d4,.ii c4,.ii d9,.ii d1,.ii c6,.str d5,.str d0,.str d3],.ii e7] (.tup [.agg [.ii c8,.ii c7,.str b9],.bool g3]):=⟨_,_,_,_,rfl,rfl,rfl,rfl,by exact r_spec_ItemFrame A hA (⟨g4,⟨d4,c4,d9,d1,c6,d5,d0,d3⟩⟩:GItem) e7 (by assumption)⟩
    refine go_drawE [0,1,2,3,4,5,6,7,8,9,10,11,12,13,14,15,16,17,18,19,22,20,21,23] (by cbv) rfl rfl ({sl:=[.bad,.pt 1 0 0,.bad,.own 13,.own 14,.ii at2,.ii n,.ii sm,.ii n2,.pt 9 0 0,.bool g3,.bad,.bad,.bad,.bad,.bad,.bad,.bad,.bad,.bad,.bad,.bad,.bad,.bad,.bad,.bad,.bad,.bad,.bad,.bad,.bad,.bad,.bad,.bad,.bad,.ii n2,.pt 1 0 0,.pt 1 0 3,.sl 4 a3,.ii n,.rd [.ii g7,.ii e7,.ii g6,.sl 9 a2],.rd [.sl 9 a2],.sl 9 a2,.ii (A.rlen a2),.bool (A.cmp .lss n2 (A.rlen a2)),.bad,.bad,.own 13,.ii at2,.pt 13 (Int.toNat at2) 0,.bool x12,.tup [.agg [.ii c8,.ii c7,.str b9],.bool g3],.pt 1 0 0,.pt 1 0 3,.sl 4 a3,.ii n,.rd [.ii g7,.ii e7,.ii g6,.sl 9 a2],.rd [.sl 9 a2],.sl 9 a2,.ii n2,.rd [.ii g4,.ii d4,.ii c4,.ii d9,.ii d1,.ii c6,.str d5,.str d0,.str d3],.agg [.ii g4,.ii d4,.ii c4,.ii d9,.ii d1,.ii c6,.str d5,.str d0,.str d3],.pt 1 0 0,.pt 1 0 3,.sl 4 a3,.ii n,.rd [.ii g7,.ii e7,.ii g6,.sl 9 a2],.rd [.ii e7,.ii g6,.sl 9 a2],.ii e7,.tup [.agg [.ii c8,.ii c7,.str b9],.bool g3],.agg [.ii c8,.ii c7,.str b9],.bool g3,.bad,.bad,.bad,.bad,.bad,.bad,.bad,.bad,.bad,.bad,.bad],bl:=[(1,⟨.var,9,[[.sl 1 a4,.sl 2 a6,.ii d6,.sl 4 a3,.ii a7,.ii a8,.ii c2,.ii a5,.sl 1 g1]]⟩),(9,⟨.var,3,[[.ii c8,.ii c7,.str b9]]⟩),(13,⟨.arr,1,i0⟩),(14,⟨.arr,1,R⟩)]}:St) (fun dR dK dhR dhF=> ?_) ?_
    ·
     have o3:∀(dn:Nat) {g8 l5:Bool} {j5 m9:PV},(g8=true→j5=.bool g3)→(l5=true→m9=.bool g3)→(l5=true→g8=true)→cntF [true,true,true,true,true,true,true,true,true,true,true,true,true,true,true,true,true,true,true,true,g8,true,true,l5]=dn→dwp T ⟨Real Tryz.prog,RealM Tryz.prog,RealC Tryz.prog⟩ dR dK dn [true,true,true,true,true,true,true,true,true,true,true,true,true,true,true,true,true,true,true,true,g8,true,true,l5] ({sl:=[.bad,.pt 1 0 0,.bad,.own 13,.own 14,.ii at2,.ii n,.ii sm,.ii n2,.pt 9 0 0,m9,.bad,.bad,.bad,.bad,.bad,.bad,.bad,.bad,.bad,.bad,.bad,.bad,.bad,.bad,.bad,.bad,.bad,.bad,.bad,.bad,.bad,.bad,.bad,.bad,.ii n2,.pt 1 0 0,.pt 1 0 3,.sl 4 a3,.ii n,.rd [.ii g7,.ii e7,.ii g6,.sl 9 a2],.rd [.sl 9 a2],.sl 9 a2,.ii (A.rlen a2),.bool (A.cmp .lss n2 (A.rlen a2)),.bad,.bad,.own 13,.ii at2,.pt 13 (Int.toNat at2) 0,.bool x12,.tup [.agg [.ii c8,.ii c7,.str b9],.bool g3],.pt 1 0 0,.pt 1 0 3,.sl 4 a3,.ii n,.rd [.ii g7,.ii e7,.ii g6,.sl 9 a2],.rd [.sl 9 a2],.sl 9 a2,.ii n2,.rd [.ii g4,.ii d4,.ii c4,.ii d9,.ii d1,.ii c6,.str d5,.str d0,.str d3],.agg [.ii g4,.ii d4,.ii c4,.ii d9,.ii d1,.ii c6,.str d5,.str d0,.str d3],.pt 1 0 0,.pt 1 0 3,.sl 4 a3,.ii n,.rd [.ii g7,.ii e7,.ii g6,.sl 9 a2],.rd [.ii e7,.ii g6,.sl 9 a2],.ii e7,.tup [.agg [.ii c8,.ii c7,.str b9],.bool g3],.agg [.ii c8,.ii c7,.str b9],j5,.bad,.bad,.bad,.bad,.bad,.bad,.bad,.bad,.bad,.bad,.bad],bl:=[(1,⟨.var,9,[[.sl 1 a4,.sl 2 a6,.ii d6,.sl 4 a3,.ii a7,.ii a8,.ii c2,.ii a5,.sl 1 g1]]⟩),(9,⟨.var,3,[[.ii c8,.ii c7,.str b9]]⟩),(13,⟨.arr,1,i0⟩),(14,⟨.arr,1,R⟩)]}:St):=by
      intro dn
      induction dn with
      | zero=>
       intro g8 l5 j5 m9 e8 n7 o2 dhn
       have y20:g8=true:=cntF_zero _ dhn 20 (by show 20 < 24;decide)
       subst y20
       have y20:=e8 rfl
       subst y20
       have y23:l5=true:=cntF_zero _ dhn 23 (by show 23 < 24;decide)
       subst y23
       have y23:=n7 rfl
       subst y23
       exact dwp_last dhF
      | succ dn ih=>
       intro g8 l5 j5 m9 e8 n7 o2 dhn
       subst dhR
       refine dwp_next (is:=[0,1,2,3,4,5,6,7,8,9,10,11,12,13,14,15,16,17,18,19,20,21,22,23]) rfl ?_
       refine an ?_
       refine an ?_
       refine an ?_
       refine an ?_
       refine an ?_
       refine an ?_
       refine an ?_
       refine an ?_
       refine an ?_
       refine an ?_
       refine an ?_
       refine an ?_
       refine an ?_
       refine an ?_
       refine an ?_
       refine an ?_
       refine an ?_
       refine an ?_
       refine an ?_
       refine an ?_
       refine aq (fun h0 h1=> ?_) ?_
       ·
        cases (show g8=false from h0)
        refine rn hA 1 ?_
        refine ow_ ?_
        exact ih rf n7 rf (cd h0 dhn)
       refine an ?_
       refine an ?_
       refine aq (fun h0 h1=> ?_) ?_
       ·
        cases (show l5=false from h0)
        obtain rfl:g8=true:=h1.1
        cases e8 rfl
        refine rn hA 1 ?_
        refine ow_ ?_
        exact ih rf rf rf (cd h0 dhn)
       exact trivial
     have r0:∀(dn:Nat) {dB0 dB1 dB2 dB3 dB4 dB5 dB6 dB7 dB8 dB9 j0 i4 i5 i9 i3 i7 i6 i2 g9 j1 g8:Bool} {dQ0 dQ1 dQ2 dQ3 dQ4 dQ5 dQ6 dQ7 dQ8 dQ9 k3 k4 l0 l1 k6 k8 k9 k5 k2 k7 j5:PV},(dB0=true→dQ0=.pt 1 0 0)→(dB1=true→dQ1=.pt 1 0 3)→(dB2=true→dQ2=.sl 4 a3)→(dB3=true→dQ3=.ii n)→(dB4=true→dQ4=.rd [.ii g7,.ii e7,.ii g6,.sl 9 a2])→(dB5=true→dQ5=.rd [.sl 9 a2])→(dB6=true→dQ6=.sl 9 a2)→(dB7=true→dQ7=.ii n2)→(dB8=true→dQ8=.rd [.ii g4,.ii d4,.ii c4,.ii d9,.ii d1,.ii c6,.str d5,.str d0,.str d3])→(dB9=true→dQ9=.agg [.ii g4,.ii d4,.ii c4,.ii d9,.ii d1,.ii c6,.str d5,.str d0,.str d3])→(j0=true→k3=.pt 1 0 0)→(i4=true→k4=.pt 1 0 3)→(i5=true→l0=.sl 4 a3)→(i9=true→l1=.ii n)→(i3=true→k6=.rd [.ii g7,.ii e7,.ii g6,.sl 9 a2])→(i7=true→k8=.rd [.ii e7,.ii g6,.sl 9 a2])→(i6=true→k9=.ii e7)→(i2=true→k5=.tup [.agg [.ii c8,.ii c7,.str b9],.bool g3])→(g9=true→k2=.tup [.agg [.ii c8,.ii c7,.str b9],.bool g3])→(j1=true→k7=.agg [.ii c8,.ii c7,.str b9])→(g8=true→j5=.bool g3)→(dB1=true→dB0=true)→(dB2=true→dB1=true)→(dB4=true→dB2=true)→(dB4=true→dB3=true)→(dB5=true→dB4=true)→(dB6=true→dB5=true)→(dB8=true→dB6=true)→(dB8=true→dB7=true)→(dB9=true→dB8=true)→(i4=true→j0=true)→(i5=true→i4=true)→(i3=true→i5=true)→(i3=true→i9=true)→(i7=true→i3=true)→(i6=true→i7=true)→(i2=true→dB9=true)→(i2=true→i6=true)→(g9=true→i2=true)→(j1=true→g9=true)→(g8=true→g9=true)→cntF [dB0,dB1,dB2,dB3,dB4,dB5,dB6,dB7,dB8,dB9,j0,i4,i5,i9,i3,i7,i6,i2,g9,j1,g8,true,false,false]=dn→dwp T ⟨Real Tryz.prog,RealM Tryz.prog,RealC Tryz.prog⟩ dR dK dn [dB0,dB1,dB2,dB3,dB4,dB5,dB6,dB7,dB8,dB9,j0,i4,i5,i9,i3,i7,i6,i2,g9,j1,g8,true,false,false] ({sl:=[.bad,.pt 1 0 0,.bad,.own 13,.own 14,.ii at2,.ii n,.ii sm,.ii n2,.pt 9 0 0,.bad,.bad,.bad,.bad,.bad,.bad,.bad,.bad,.bad,.bad,.bad,.bad,.bad,.bad,.bad,.bad,.bad,.bad,.bad,.bad,.bad,.bad,.bad,.bad,.bad,.ii n2,.pt 1 0 0,.pt 1 0 3,.sl 4 a3,.ii n,.rd [.ii g7,.ii e7,.ii g6,.sl 9 a2],.rd [.sl 9 a2],.sl 9 a2,.ii (A.rlen a2),.bool (A.cmp .lss n2 (A.rlen a2)),.bad,.bad,.own 13,.ii at2,.pt 13 (Int.toNat at2) 0,.bool x12,k2,dQ0,dQ1,dQ2,dQ3,dQ4,dQ5,dQ6,dQ7,dQ8,dQ9,k3,k4,l0,l1,k6,k8,k9,k5,k7,j5,.bad,.bad,.bad,.bad,.bad,.bad,.bad,.bad,.bad,.bad,.bad],bl:=[(1,⟨.var,9,[[.sl 1 a4,.sl 2 a6,.ii d6,.sl 4 a3,.ii a7,.ii a8,.ii c2,.ii a5,.sl 1 g1]]⟩),(9,⟨.var,3,[[.ii 0,.ii 0,.str ByteArray.empty]]⟩),(13,⟨.arr,1,i0⟩),(14,⟨.arr,1,R⟩)]}:St):=by
      intro dn
      induction dn with
      | zero=>
       intro dB0 dB1 dB2 dB3 dB4 dB5 dB6 dB7 dB8 dB9 j0 i4 i5 i9 i3 i7 i6 i2 g9 j1 g8 dQ0 dQ1 dQ2 dQ3 dQ4 dQ5 dQ6 dQ7 dQ8 dQ9 k3 k4 l0 l1 k6 k8 k9 k5 k2 k7 j5 dh0 dh1 dh2 dh3 dh4 dh5 dh6 dh7 dh8 dh9 f5 f7 f9 f3 f0 f8 f1 f6 f2 f4 e8 e4 e5 e3 d7 d8 e1 e0 e6 e2 b5 b0 b4 b6 b3 b1 c1 b2 a9 b7 b8 dhn
       exact absurd (show false=true from cntF_zero _ dhn 22 (by show 22 < 24;decide)) (by decide)
      | succ dn ih=>
       intro dB0 dB1 dB2 dB3 dB4 dB5 dB6 dB7 dB8 dB9 j0 i4 i5 i9 i3 i7 i6 i2 g9 j1 g8 dQ0 dQ1 dQ2 dQ3 dQ4 dQ5 dQ6 dQ7 dQ8 dQ9 k3 k4 l0 l1 k6 k8 k9 k5 k2 k7 j5 dh0 dh1 dh2 dh3 dh4 dh5 dh6 dh7 dh8 dh9 f5 f7 f9 f3 f0 f8 f1 f6 f2 f4 e8 e4 e5 e3 d7 d8 e1 e0 e6 e2 b5 b0 b4 b6 b3 b1 c1 b2 a9 b7 b8 dhn
       subst dhR
       refine dwp_next (is:=[0,1,2,3,4,5,6,7,8,9,10,11,12,13,14,15,16,17,18,19,20,21,22,23]) rfl ?_
       refine aq (fun h0 h1=> ?_) ?_
       ·
        cases (show dB0=false from h0)
        refine rn hA 1 ?_
        refine ow_ ?_
        exact ih rf dh1 dh2 dh3 dh4 dh5 dh6 dh7 dh8 dh9 f5 f7 f9 f3 f0 f8 f1 f6 f2 f4 e8 rf e5 e3 d7 d8 e1 e0 e6 e2 b5 b0 b4 b6 b3 b1 c1 b2 a9 b7 b8 (cd h0 dhn)
       refine aq (fun h0 h1=> ?_) ?_
       ·
        cases (show dB1=false from h0)
        obtain rfl:dB0=true:=h1.1
        cases dh0 rfl
        refine rn hA 1 ?_
        refine ow_ ?_
        exact ih rf rf dh2 dh3 dh4 dh5 dh6 dh7 dh8 dh9 f5 f7 f9 f3 f0 f8 f1 f6 f2 f4 e8 rf rf e3 d7 d8 e1 e0 e6 e2 b5 b0 b4 b6 b3 b1 c1 b2 a9 b7 b8 (cd h0 dhn)
       refine aq (fun h0 h1=> ?_) ?_
       ·
        cases (show dB2=false from h0)
        obtain rfl:dB1=true:=h1.1
        cases dh1 rfl;cases e4 rfl;cases dh0 rfl
        refine rn hA 1 ?_
        refine ow_ ?_
        exact ih rf rf rf dh3 dh4 dh5 dh6 dh7 dh8 dh9 f5 f7 f9 f3 f0 f8 f1 f6 f2 f4 e8 rf rf rf d7 d8 e1 e0 e6 e2 b5 b0 b4 b6 b3 b1 c1 b2 a9 b7 b8 (cd h0 dhn)
       refine aq (fun h0 h1=> ?_) ?_
       ·
        cases (show dB3=false from h0)
        refine rn hA 1 ?_
        refine ow_ ?_
        exact ih dh0 dh1 dh2 rf dh4 dh5 dh6 dh7 dh8 dh9 f5 f7 f9 f3 f0 f8 f1 f6 f2 f4 e8 e4 e5 e3 rf d8 e1 e0 e6 e2 b5 b0 b4 b6 b3 b1 c1 b2 a9 b7 b8 (cd h0 dhn)
       refine aq (fun h0 h1=> ?_) ?_
       ·
        cases (show dB4=false from h0)
        obtain rfl:dB2=true:=h1.1
        cases dh2 rfl;cases e5 rfl;cases dh1 rfl;cases e4 rfl;cases dh0 rfl
        obtain rfl:dB3=true:=h1.2.1
        cases dh3 rfl
        refine ops_step rfl rfl (idx_sl rfl rfl rfl rfl rfl l9 rfl m0) ?_
        refine ow_ ?_
        exact ih rf rf rf rf rf dh5 dh6 dh7 dh8 dh9 f5 f7 f9 f3 f0 f8 f1 f6 f2 f4 e8 rf rf rf rf rf e1 e0 e6 e2 b5 b0 b4 b6 b3 b1 c1 b2 a9 b7 b8 (cd h0 dhn)
       refine aq (fun h0 h1=> ?_) ?_
       ·
        cases (show dB5=false from h0)
        obtain rfl:dB4=true:=h1.1
        cases dh4 rfl;cases e3 rfl;cases dh2 rfl;cases e5 rfl;cases dh1 rfl;cases e4 rfl;cases dh0 rfl;cases d7 rfl;cases dh3 rfl
        refine rn hA 1 ?_
        refine ow_ ?_
        exact ih rf rf rf rf rf rf dh6 dh7 dh8 dh9 f5 f7 f9 f3 f0 f8 f1 f6 f2 f4 e8 rf rf rf rf rf rf e0 e6 e2 b5 b0 b4 b6 b3 b1 c1 b2 a9 b7 b8 (cd h0 dhn)
       refine aq (fun h0 h1=> ?_) ?_
       ·
        cases (show dB6=false from h0)
        obtain rfl:dB5=true:=h1.1
        cases dh5 rfl;cases d8 rfl;cases dh4 rfl;cases e3 rfl;cases dh2 rfl;cases e5 rfl;cases dh1 rfl;cases e4 rfl;cases dh0 rfl;cases d7 rfl;cases dh3 rfl
        refine rn hA 1 ?_
        refine ow_ ?_
        exact ih rf rf rf rf rf rf rf dh7 dh8 dh9 f5 f7 f9 f3 f0 f8 f1 f6 f2 f4 e8 rf rf rf rf rf rf rf e6 e2 b5 b0 b4 b6 b3 b1 c1 b2 a9 b7 b8 (cd h0 dhn)
       refine aq (fun h0 h1=> ?_) ?_
       ·
        cases (show dB7=false from h0)
        refine rn hA 1 ?_
        refine ow_ ?_
        exact ih dh0 dh1 dh2 dh3 dh4 dh5 dh6 rf dh8 dh9 f5 f7 f9 f3 f0 f8 f1 f6 f2 f4 e8 e4 e5 e3 d7 d8 e1 e0 rf e2 b5 b0 b4 b6 b3 b1 c1 b2 a9 b7 b8 (cd h0 dhn)
       refine aq (fun h0 h1=> ?_) ?_
       ·
        cases (show dB8=false from h0)
        obtain rfl:dB6=true:=h1.1
        cases dh6 rfl;cases e1 rfl;cases dh5 rfl;cases d8 rfl;cases dh4 rfl;cases e3 rfl;cases dh2 rfl;cases e5 rfl;cases dh1 rfl;cases e4 rfl;cases dh0 rfl;cases d7 rfl;cases dh3 rfl
        obtain rfl:dB7=true:=h1.2.1
        cases dh7 rfl
        refine ops_step rfl rfl (idx_sl rfl rfl rfl rfl rfl n9 rfl o1) ?_
        refine ow_ ?_
        exact ih rf rf rf rf rf rf rf rf rf dh9 f5 f7 f9 f3 f0 f8 f1 f6 f2 f4 e8 rf rf rf rf rf rf rf rf rf b5 b0 b4 b6 b3 b1 c1 b2 a9 b7 b8 (cd h0 dhn)
       refine aq (fun h0 h1=> ?_) ?_
       ·
        cases (show dB9=false from h0)
        obtain rfl:dB8=true:=h1.1
        cases dh8 rfl;cases e0 rfl;cases dh6 rfl;cases e1 rfl;cases dh5 rfl;cases d8 rfl;cases dh4 rfl;cases e3 rfl;cases dh2 rfl;cases e5 rfl;cases dh1 rfl;cases e4 rfl;cases dh0 rfl;cases d7 rfl;cases dh3 rfl;cases e6 rfl;cases dh7 rfl
        refine rn hA 1 ?_
        refine ow_ ?_
        exact ih rf rf rf rf rf rf rf rf rf rf f5 f7 f9 f3 f0 f8 f1 f6 f2 f4 e8 rf rf rf rf rf rf rf rf rf b5 b0 b4 b6 b3 b1 rf b2 a9 b7 b8 (cd h0 dhn)
       refine aq (fun h0 h1=> ?_) ?_
       ·
        cases (show j0=false from h0)
        refine rn hA 1 ?_
        refine ow_ ?_
        exact ih dh0 dh1 dh2 dh3 dh4 dh5 dh6 dh7 dh8 dh9 rf f7 f9 f3 f0 f8 f1 f6 f2 f4 e8 e4 e5 e3 d7 d8 e1 e0 e6 e2 rf b0 b4 b6 b3 b1 c1 b2 a9 b7 b8 (cd h0 dhn)
       refine aq (fun h0 h1=> ?_) ?_
       ·
        cases (show i4=false from h0)
        obtain rfl:j0=true:=h1.1
        cases f5 rfl
        refine rn hA 1 ?_
        refine ow_ ?_
        exact ih dh0 dh1 dh2 dh3 dh4 dh5 dh6 dh7 dh8 dh9 rf rf f9 f3 f0 f8 f1 f6 f2 f4 e8 e4 e5 e3 d7 d8 e1 e0 e6 e2 rf rf b4 b6 b3 b1 c1 b2 a9 b7 b8 (cd h0 dhn)
       refine aq (fun h0 h1=> ?_) ?_
       ·
        cases (show i5=false from h0)
        obtain rfl:i4=true:=h1.1
        cases f7 rfl;cases b5 rfl;cases f5 rfl
        refine rn hA 1 ?_
        refine ow_ ?_
        exact ih dh0 dh1 dh2 dh3 dh4 dh5 dh6 dh7 dh8 dh9 rf rf rf f3 f0 f8 f1 f6 f2 f4 e8 e4 e5 e3 d7 d8 e1 e0 e6 e2 rf rf rf b6 b3 b1 c1 b2 a9 b7 b8 (cd h0 dhn)
       refine aq (fun h0 h1=> ?_) ?_
       ·
        cases (show i9=false from h0)
        refine rn hA 1 ?_
        refine ow_ ?_
        exact ih dh0 dh1 dh2 dh3 dh4 dh5 dh6 dh7 dh8 dh9 f5 f7 f9 rf f0 f8 f1 f6 f2 f4 e8 e4 e5 e3 d7 d8 e1 e0 e6 e2 b5 b0 b4 rf b3 b1 c1 b2 a9 b7 b8 (cd h0 dhn)
       refine aq (fun h0 h1=> ?_) ?_
       ·
        cases (show i3=false from h0)
        obtain rfl:i5=true:=h1.1
        cases f9 rfl;cases b0 rfl;cases f7 rfl;cases b5 rfl;cases f5 rfl
        obtain rfl:i9=true:=h1.2.1
        cases f3 rfl
        refine ops_step rfl rfl (idx_sl rfl rfl rfl rfl rfl l9 rfl m0) ?_
        refine ow_ ?_
        exact ih dh0 dh1 dh2 dh3 dh4 dh5 dh6 dh7 dh8 dh9 rf rf rf rf rf f8 f1 f6 f2 f4 e8 e4 e5 e3 d7 d8 e1 e0 e6 e2 rf rf rf rf rf b1 c1 b2 a9 b7 b8 (cd h0 dhn)
       refine aq (fun h0 h1=> ?_) ?_
       ·
        cases (show i7=false from h0)
        obtain rfl:i3=true:=h1.1
        cases f0 rfl;cases b4 rfl;cases f9 rfl;cases b0 rfl;cases f7 rfl;cases b5 rfl;cases f5 rfl;cases b6 rfl;cases f3 rfl
        refine rn hA 1 ?_
        refine ow_ ?_
        exact ih dh0 dh1 dh2 dh3 dh4 dh5 dh6 dh7 dh8 dh9 rf rf rf rf rf rf f1 f6 f2 f4 e8 e4 e5 e3 d7 d8 e1 e0 e6 e2 rf rf rf rf rf rf c1 b2 a9 b7 b8 (cd h0 dhn)
       refine aq (fun h0 h1=> ?_) ?_
       ·
        cases (show i6=false from h0)
        obtain rfl:i7=true:=h1.1
        cases f8 rfl;cases b3 rfl;cases f0 rfl;cases b4 rfl;cases f9 rfl;cases b0 rfl;cases f7 rfl;cases b5 rfl;cases f5 rfl;cases b6 rfl;cases f3 rfl
        refine rn hA 1 ?_
        refine ow_ ?_
        exact ih dh0 dh1 dh2 dh3 dh4 dh5 dh6 dh7 dh8 dh9 rf rf rf rf rf rf rf f6 f2 f4 e8 e4 e5 e3 d7 d8 e1 e0 e6 e2 rf rf rf rf rf rf c1 rf a9 b7 b8 (cd h0 dhn)
       refine aq (fun h0 h1=> ?_) ?_
       ·
        cases (show i2=false from h0)
        obtain rfl:dB9=true:=h1.1
        cases dh9 rfl;cases e2 rfl;cases dh8 rfl;cases e0 rfl;cases dh6 rfl;cases e1 rfl;cases dh5 rfl;cases d8 rfl;cases dh4 rfl;cases e3 rfl;cases dh2 rfl;cases e5 rfl;cases dh1 rfl;cases e4 rfl;cases dh0 rfl;cases d7 rfl;cases dh3 rfl;cases e6 rfl;cases dh7 rfl
        obtain rfl:i6=true:=h1.2.1
        cases f1 rfl;cases b1 rfl;cases f8 rfl;cases b3 rfl;cases f0 rfl;cases b4 rfl;cases f9 rfl;cases b0 rfl;cases f7 rfl;cases b5 rfl;cases f5 rfl;cases b6 rfl;cases f3 rfl
        refine cvw o5 (.inr rfl) ?_
        refine ow_ ?_
        exact ih rf rf rf rf rf rf rf rf rf rf rf rf rf rf rf rf rf rf f2 f4 e8 rf rf rf rf rf rf rf rf rf rf rf rf rf rf rf rf rf rf b7 b8 (cd h0 dhn)
       refine aq (fun h0 h1=> ?_) ?_
       ·
        cases (show g9=false from h0)
        obtain rfl:i2=true:=h1.1
        cases f6 rfl;cases c1 rfl;cases dh9 rfl;cases e2 rfl;cases dh8 rfl;cases e0 rfl;cases dh6 rfl;cases e1 rfl;cases dh5 rfl;cases d8 rfl;cases dh4 rfl;cases e3 rfl;cases dh2 rfl;cases e5 rfl;cases dh1 rfl;cases e4 rfl;cases dh0 rfl;cases d7 rfl;cases dh3 rfl;cases e6 rfl;cases dh7 rfl;cases b2 rfl;cases f1 rfl;cases b1 rfl;cases f8 rfl;cases b3 rfl;cases f0 rfl;cases b4 rfl;cases f9 rfl;cases b0 rfl;cases f7 rfl;cases b5 rfl;cases f5 rfl;cases b6 rfl;cases f3 rfl
        refine rn hA 1 ?_
        refine ow_ ?_
        exact ih rf rf rf rf rf rf rf rf rf rf rf rf rf rf rf rf rf rf rf f4 e8 rf rf rf rf rf rf rf rf rf rf rf rf rf rf rf rf rf rf rf rf (cd h0 dhn)
       refine aq (fun h0 h1=> ?_) ?_
       ·
        cases (show j1=false from h0)
        obtain rfl:g9=true:=h1.1
        cases f2 rfl;cases a9 rfl;cases f6 rfl;cases c1 rfl;cases dh9 rfl;cases e2 rfl;cases dh8 rfl;cases e0 rfl;cases dh6 rfl;cases e1 rfl;cases dh5 rfl;cases d8 rfl;cases dh4 rfl;cases e3 rfl;cases dh2 rfl;cases e5 rfl;cases dh1 rfl;cases e4 rfl;cases dh0 rfl;cases d7 rfl;cases dh3 rfl;cases e6 rfl;cases dh7 rfl;cases b2 rfl;cases f1 rfl;cases b1 rfl;cases f8 rfl;cases b3 rfl;cases f0 rfl;cases b4 rfl;cases f9 rfl;cases b0 rfl;cases f7 rfl;cases b5 rfl;cases f5 rfl;cases b6 rfl;cases f3 rfl
        refine rn hA 1 ?_
        refine ow_ ?_
        exact ih rf rf rf rf rf rf rf rf rf rf rf rf rf rf rf rf rf rf rf rf e8 rf rf rf rf rf rf rf rf rf rf rf rf rf rf rf rf rf rf rf rf (cd h0 dhn)
       refine aq (fun h0 h1=> ?_) ?_
       ·
        cases (show g8=false from h0)
        obtain rfl:g9=true:=h1.1
        cases f2 rfl;cases a9 rfl;cases f6 rfl;cases c1 rfl;cases dh9 rfl;cases e2 rfl;cases dh8 rfl;cases e0 rfl;cases dh6 rfl;cases e1 rfl;cases dh5 rfl;cases d8 rfl;cases dh4 rfl;cases e3 rfl;cases dh2 rfl;cases e5 rfl;cases dh1 rfl;cases e4 rfl;cases dh0 rfl;cases d7 rfl;cases dh3 rfl;cases e6 rfl;cases dh7 rfl;cases b2 rfl;cases f1 rfl;cases b1 rfl;cases f8 rfl;cases b3 rfl;cases f0 rfl;cases b4 rfl;cases f9 rfl;cases b0 rfl;cases f7 rfl;cases b5 rfl;cases f5 rfl;cases b6 rfl;cases f3 rfl
        refine rn hA 1 ?_
        refine ow_ ?_
        exact ih rf rf rf rf rf rf rf rf rf rf rf rf rf rf rf rf rf rf rf f4 rf rf rf rf rf rf rf rf rf rf rf rf rf rf rf rf rf rf rf rf rf (cd h0 dhn)
       refine an ?_
       refine aq (fun h0 h1=> ?_) ?_
       ·
        obtain rfl:j1=true:=h1.2.1
        cases f4 rfl;cases b7 rfl;cases f2 rfl;cases a9 rfl;cases f6 rfl;cases c1 rfl;cases dh9 rfl;cases e2 rfl;cases dh8 rfl;cases e0 rfl;cases dh6 rfl;cases e1 rfl;cases dh5 rfl;cases d8 rfl;cases dh4 rfl;cases e3 rfl;cases dh2 rfl;cases e5 rfl;cases dh1 rfl;cases e4 rfl;cases dh0 rfl;cases d7 rfl;cases dh3 rfl;cases e6 rfl;cases dh7 rfl;cases b2 rfl;cases f1 rfl;cases b1 rfl;cases f8 rfl;cases b3 rfl;cases f0 rfl;cases b4 rfl;cases f9 rfl;cases b0 rfl;cases f7 rfl;cases b5 rfl;cases f5 rfl;cases b6 rfl;cases f3 rfl
        refine rn hA 1 ?_
        refine ow_ ?_
        exact o3 dn e8 nf nf (cd h0 dhn)
       refine allRdy_q rfl rfl (fun _ h1=>absurd (show false=true from h1.2.1) (by decide)) ?_
       exact trivial
     have H_:∀(dn:Nat) {dB0 dB1 dB2 dB3 dB4 dB5 dB6 dB7 dB8 dB9 j0 i4 i5 i9 i3 i7 i6 i2 g9 j1 g8:Bool} {dQ0 dQ1 dQ2 dQ3 dQ4 dQ5 dQ6 dQ7 dQ8 dQ9 k3 k4 l0 l1 k6 k8 k9 k5 k2 k7 j5:PV},(dB0=true→dQ0=.pt 1 0 0)→(dB1=true→dQ1=.pt 1 0 3)→(dB2=true→dQ2=.sl 4 a3)→(dB3=true→dQ3=.ii n)→(dB4=true→dQ4=.rd [.ii g7,.ii e7,.ii g6,.sl 9 a2])→(dB5=true→dQ5=.rd [.sl 9 a2])→(dB6=true→dQ6=.sl 9 a2)→(dB7=true→dQ7=.ii n2)→(dB8=true→dQ8=.rd [.ii g4,.ii d4,.ii c4,.ii d9,.ii d1,.ii c6,.str d5,.str d0,.str d3])→(dB9=true→dQ9=.agg [.ii g4,.ii d4,.ii c4,.ii d9,.ii d1,.ii c6,.str d5,.str d0,.str d3])→(j0=true→k3=.pt 1 0 0)→(i4=true→k4=.pt 1 0 3)→(i5=true→l0=.sl 4 a3)→(i9=true→l1=.ii n)→(i3=true→k6=.rd [.ii g7,.ii e7,.ii g6,.sl 9 a2])→(i7=true→k8=.rd [.ii e7,.ii g6,.sl 9 a2])→(i6=true→k9=.ii e7)→(i2=true→k5=.tup [.agg [.ii c8,.ii c7,.str b9],.bool g3])→(g9=true→k2=.tup [.agg [.ii c8,.ii c7,.str b9],.bool g3])→(j1=true→k7=.agg [.ii c8,.ii c7,.str b9])→(g8=true→j5=.bool g3)→(dB1=true→dB0=true)→(dB2=true→dB1=true)→(dB4=true→dB2=true)→(dB4=true→dB3=true)→(dB5=true→dB4=true)→(dB6=true→dB5=true)→(dB8=true→dB6=true)→(dB8=true→dB7=true)→(dB9=true→dB8=true)→(i4=true→j0=true)→(i5=true→i4=true)→(i3=true→i5=true)→(i3=true→i9=true)→(i7=true→i3=true)→(i6=true→i7=true)→(i2=true→dB9=true)→(i2=true→i6=true)→(g9=true→i2=true)→(j1=true→g9=true)→(g8=true→g9=true)→cntF [dB0,dB1,dB2,dB3,dB4,dB5,dB6,dB7,dB8,dB9,j0,i4,i5,i9,i3,i7,i6,i2,g9,j1,g8,false,false,false]=dn→dwp T ⟨Real Tryz.prog,RealM Tryz.prog,RealC Tryz.prog⟩ dR dK dn [dB0,dB1,dB2,dB3,dB4,dB5,dB6,dB7,dB8,dB9,j0,i4,i5,i9,i3,i7,i6,i2,g9,j1,g8,false,false,false] ({sl:=[.bad,.pt 1 0 0,.bad,.own 13,.own 14,.ii at2,.ii n,.ii sm,.ii n2,.bad,.bad,.bad,.bad,.bad,.bad,.bad,.bad,.bad,.bad,.bad,.bad,.bad,.bad,.bad,.bad,.bad,.bad,.bad,.bad,.bad,.bad,.bad,.bad,.bad,.bad,.ii n2,.pt 1 0 0,.pt 1 0 3,.sl 4 a3,.ii n,.rd [.ii g7,.ii e7,.ii g6,.sl 9 a2],.rd [.sl 9 a2],.sl 9 a2,.ii (A.rlen a2),.bool (A.cmp .lss n2 (A.rlen a2)),.bad,.bad,.own 13,.ii at2,.pt 13 (Int.toNat at2) 0,.bool x12,k2,dQ0,dQ1,dQ2,dQ3,dQ4,dQ5,dQ6,dQ7,dQ8,dQ9,k3,k4,l0,l1,k6,k8,k9,k5,k7,j5,.bad,.bad,.bad,.bad,.bad,.bad,.bad,.bad,.bad,.bad,.bad],bl:=[(1,⟨.var,9,[[.sl 1 a4,.sl 2 a6,.ii d6,.sl 4 a3,.ii a7,.ii a8,.ii c2,.ii a5,.sl 1 g1]]⟩),(13,⟨.arr,1,i0⟩),(14,⟨.arr,1,R⟩)]}:St):=by
      intro dn
      induction dn with
      | zero=>
       intro dB0 dB1 dB2 dB3 dB4 dB5 dB6 dB7 dB8 dB9 j0 i4 i5 i9 i3 i7 i6 i2 g9 j1 g8 dQ0 dQ1 dQ2 dQ3 dQ4 dQ5 dQ6 dQ7 dQ8 dQ9 k3 k4 l0 l1 k6 k8 k9 k5 k2 k7 j5 dh0 dh1 dh2 dh3 dh4 dh5 dh6 dh7 dh8 dh9 f5 f7 f9 f3 f0 f8 f1 f6 f2 f4 e8 e4 e5 e3 d7 d8 e1 e0 e6 e2 b5 b0 b4 b6 b3 b1 c1 b2 a9 b7 b8 dhn
       exact absurd (show false=true from cntF_zero _ dhn 21 (by show 21 < 24;decide)) (by decide)
      | succ dn ih=>
       intro dB0 dB1 dB2 dB3 dB4 dB5 dB6 dB7 dB8 dB9 j0 i4 i5 i9 i3 i7 i6 i2 g9 j1 g8 dQ0 dQ1 dQ2 dQ3 dQ4 dQ5 dQ6 dQ7 dQ8 dQ9 k3 k4 l0 l1 k6 k8 k9 k5 k2 k7 j5 dh0 dh1 dh2 dh3 dh4 dh5 dh6 dh7 dh8 dh9 f5 f7 f9 f3 f0 f8 f1 f6 f2 f4 e8 e4 e5 e3 d7 d8 e1 e0 e6 e2 b5 b0 b4 b6 b3 b1 c1 b2 a9 b7 b8 dhn
       subst dhR
       refine dwp_next (is:=[0,1,2,3,4,5,6,7,8,9,10,11,12,13,14,15,16,17,18,19,20,21,22,23]) rfl ?_
       refine aq (fun h0 h1=> ?_) ?_
       ·
        cases (show dB0=false from h0)
        refine rn hA 1 ?_
        refine ow_ ?_
        exact ih rf dh1 dh2 dh3 dh4 dh5 dh6 dh7 dh8 dh9 f5 f7 f9 f3 f0 f8 f1 f6 f2 f4 e8 rf e5 e3 d7 d8 e1 e0 e6 e2 b5 b0 b4 b6 b3 b1 c1 b2 a9 b7 b8 (cd h0 dhn)
       refine aq (fun h0 h1=> ?_) ?_
       ·
        cases (show dB1=false from h0)
        obtain rfl:dB0=true:=h1.1
        cases dh0 rfl
        refine rn hA 1 ?_
        refine ow_ ?_
        exact ih rf rf dh2 dh3 dh4 dh5 dh6 dh7 dh8 dh9 f5 f7 f9 f3 f0 f8 f1 f6 f2 f4 e8 rf rf e3 d7 d8 e1 e0 e6 e2 b5 b0 b4 b6 b3 b1 c1 b2 a9 b7 b8 (cd h0 dhn)
       refine aq (fun h0 h1=> ?_) ?_
       ·
        cases (show dB2=false from h0)
        obtain rfl:dB1=true:=h1.1
        cases dh1 rfl;cases e4 rfl;cases dh0 rfl
        refine rn hA 1 ?_
        refine ow_ ?_
        exact ih rf rf rf dh3 dh4 dh5 dh6 dh7 dh8 dh9 f5 f7 f9 f3 f0 f8 f1 f6 f2 f4 e8 rf rf rf d7 d8 e1 e0 e6 e2 b5 b0 b4 b6 b3 b1 c1 b2 a9 b7 b8 (cd h0 dhn)
       refine aq (fun h0 h1=> ?_) ?_
       ·
        cases (show dB3=false from h0)
        refine rn hA 1 ?_
        refine ow_ ?_
        exact ih dh0 dh1 dh2 rf dh4 dh5 dh6 dh7 dh8 dh9 f5 f7 f9 f3 f0 f8 f1 f6 f2 f4 e8 e4 e5 e3 rf d8 e1 e0 e6 e2 b5 b0 b4 b6 b3 b1 c1 b2 a9 b7 b8 (cd h0 dhn)
       refine aq (fun h0 h1=> ?_) ?_
       ·
        cases (show dB4=false from h0)
        obtain rfl:dB2=true:=h1.1
        cases dh2 rfl;cases e5 rfl;cases dh1 rfl;cases e4 rfl;cases dh0 rfl
        obtain rfl:dB3=true:=h1.2.1
        cases dh3 rfl
        refine ops_step rfl rfl (idx_sl rfl rfl rfl rfl rfl l9 rfl m0) ?_
        refine ow_ ?_
        exact ih rf rf rf rf rf dh5 dh6 dh7 dh8 dh9 f5 f7 f9 f3 f0 f8 f1 f6 f2 f4 e8 rf rf rf rf rf e1 e0 e6 e2 b5 b0 b4 b6 b3 b1 c1 b2 a9 b7 b8 (cd h0 dhn)
       refine aq (fun h0 h1=> ?_) ?_
       ·
        cases (show dB5=false from h0)
        obtain rfl:dB4=true:=h1.1
        cases dh4 rfl;cases e3 rfl;cases dh2 rfl;cases e5 rfl;cases dh1 rfl;cases e4 rfl;cases dh0 rfl;cases d7 rfl;cases dh3 rfl
        refine rn hA 1 ?_
        refine ow_ ?_
        exact ih rf rf rf rf rf rf dh6 dh7 dh8 dh9 f5 f7 f9 f3 f0 f8 f1 f6 f2 f4 e8 rf rf rf rf rf rf e0 e6 e2 b5 b0 b4 b6 b3 b1 c1 b2 a9 b7 b8 (cd h0 dhn)
       refine aq (fun h0 h1=> ?_) ?_
       ·
        cases (show dB6=false from h0)
        obtain rfl:dB5=true:=h1.1
        cases dh5 rfl;cases d8 rfl;cases dh4 rfl;cases e3 rfl;cases dh2 rfl;cases e5 rfl;cases dh1 rfl;cases e4 rfl;cases dh0 rfl;cases d7 rfl;cases dh3 rfl
        refine rn hA 1 ?_
        refine ow_ ?_
        exact ih rf rf rf rf rf rf rf dh7 dh8 dh9 f5 f7 f9 f3 f0 f8 f1 f6 f2 f4 e8 rf rf rf rf rf rf rf e6 e2 b5 b0 b4 b6 b3 b1 c1 b2 a9 b7 b8 (cd h0 dhn)
       refine aq (fun h0 h1=> ?_) ?_
       ·
        cases (show dB7=false from h0)
        refine rn hA 1 ?_
        refine ow_ ?_
        exact ih dh0 dh1 dh2 dh3 dh4 dh5 dh6 rf dh8 dh9 f5 f7 f9 f3 f0 f8 f1 f6 f2 f4 e8 e4 e5 e3 d7 d8 e1 e0 rf e2 b5 b0 b4 b6 b3 b1 c1 b2 a9 b7 b8 (cd h0 dhn)
       refine aq (fun h0 h1=> ?_) ?_
       ·
        cases (show dB8=false from h0)
        obtain rfl:dB6=true:=h1.1
        cases dh6 rfl;cases e1 rfl;cases dh5 rfl;cases d8 rfl;cases dh4 rfl;cases e3 rfl;cases dh2 rfl;cases e5 rfl;cases dh1 rfl;cases e4 rfl;cases dh0 rfl;cases d7 rfl;cases dh3 rfl
        obtain rfl:dB7=true:=h1.2.1
        cases dh7 rfl
        refine ops_step rfl rfl (idx_sl rfl rfl rfl rfl rfl n9 rfl o1) ?_
        refine ow_ ?_
        exact ih rf rf rf rf rf rf rf rf rf dh9 f5 f7 f9 f3 f0 f8 f1 f6 f2 f4 e8 rf rf rf rf rf rf rf rf rf b5 b0 b4 b6 b3 b1 c1 b2 a9 b7 b8 (cd h0 dhn)
       refine aq (fun h0 h1=> ?_) ?_
       ·
        cases (show dB9=false from h0)
        obtain rfl:dB8=true:=h1.1
        cases dh8 rfl;cases e0 rfl;cases dh6 rfl;cases e1 rfl;cases dh5 rfl;cases d8 rfl;cases dh4 rfl;cases e3 rfl;cases dh2 rfl;cases e5 rfl;cases dh1 rfl;cases e4 rfl;cases dh0 rfl;cases d7 rfl;cases dh3 rfl;cases e6 rfl;cases dh7 rfl
        refine rn hA 1 ?_
        refine ow_ ?_
        exact ih rf rf rf rf rf rf rf rf rf rf f5 f7 f9 f3 f0 f8 f1 f6 f2 f4 e8 rf rf rf rf rf rf rf rf rf b5 b0 b4 b6 b3 b1 rf b2 a9 b7 b8 (cd h0 dhn)
       refine aq (fun h0 h1=> ?_) ?_
       ·
        cases (show j0=false from h0)
        refine rn hA 1 ?_
        refine ow_ ?_
        exact ih dh0 dh1 dh2 dh3 dh4 dh5 dh6 dh7 dh8 dh9 rf f7 f9 f3 f0 f8 f1 f6 f2 f4 e8 e4 e5 e3 d7 d8 e1 e0 e6 e2 rf b0 b4 b6 b3 b1 c1 b2 a9 b7 b8 (cd h0 dhn)
       refine aq (fun h0 h1=> ?_) ?_
       ·
        cases (show i4=false from h0)
        obtain rfl:j0=true:=h1.1
        cases f5 rfl
        refine rn hA 1 ?_
        refine ow_ ?_
        exact ih dh0 dh1 dh2 dh3 dh4 dh5 dh6 dh7 dh8 dh9 rf rf f9 f3 f0 f8 f1 f6 f2 f4 e8 e4 e5 e3 d7 d8 e1 e0 e6 e2 rf rf b4 b6 b3 b1 c1 b2 a9 b7 b8 (cd h0 dhn)
       refine aq (fun h0 h1=> ?_) ?_
       ·
        cases (show i5=false from h0)
        obtain rfl:i4=true:=h1.1
        cases f7 rfl;cases b5 rfl;cases f5 rfl
        refine rn hA 1 ?_
        refine ow_ ?_
        exact ih dh0 dh1 dh2 dh3 dh4 dh5 dh6 dh7 dh8 dh9 rf rf rf f3 f0 f8 f1 f6 f2 f4 e8 e4 e5 e3 d7 d8 e1 e0 e6 e2 rf rf rf b6 b3 b1 c1 b2 a9 b7 b8 (cd h0 dhn)
       refine aq (fun h0 h1=> ?_) ?_
       ·
        cases (show i9=false from h0)
        refine rn hA 1 ?_
        refine ow_ ?_
        exact ih dh0 dh1 dh2 dh3 dh4 dh5 dh6 dh7 dh8 dh9 f5 f7 f9 rf f0 f8 f1 f6 f2 f4 e8 e4 e5 e3 d7 d8 e1 e0 e6 e2 b5 b0 b4 rf b3 b1 c1 b2 a9 b7 b8 (cd h0 dhn)
       refine aq (fun h0 h1=> ?_) ?_
       ·
        cases (show i3=false from h0)
        obtain rfl:i5=true:=h1.1
        cases f9 rfl;cases b0 rfl;cases f7 rfl;cases b5 rfl;cases f5 rfl
        obtain rfl:i9=true:=h1.2.1
        cases f3 rfl
        refine ops_step rfl rfl (idx_sl rfl rfl rfl rfl rfl l9 rfl m0) ?_
        refine ow_ ?_
        exact ih dh0 dh1 dh2 dh3 dh4 dh5 dh6 dh7 dh8 dh9 rf rf rf rf rf f8 f1 f6 f2 f4 e8 e4 e5 e3 d7 d8 e1 e0 e6 e2 rf rf rf rf rf b1 c1 b2 a9 b7 b8 (cd h0 dhn)
       refine aq (fun h0 h1=> ?_) ?_
       ·
        cases (show i7=false from h0)
        obtain rfl:i3=true:=h1.1
        cases f0 rfl;cases b4 rfl;cases f9 rfl;cases b0 rfl;cases f7 rfl;cases b5 rfl;cases f5 rfl;cases b6 rfl;cases f3 rfl
        refine rn hA 1 ?_
        refine ow_ ?_
        exact ih dh0 dh1 dh2 dh3 dh4 dh5 dh6 dh7 dh8 dh9 rf rf rf rf rf rf f1 f6 f2 f4 e8 e4 e5 e3 d7 d8 e1 e0 e6 e2 rf rf rf rf rf rf c1 b2 a9 b7 b8 (cd h0 dhn)
       refine aq (fun h0 h1=> ?_) ?_
       ·
        cases (show i6=false from h0)
        obtain rfl:i7=true:=h1.1
        cases f8 rfl;cases b3 rfl;cases f0 rfl;cases b4 rfl;cases f9 rfl;cases b0 rfl;cases f7 rfl;cases b5 rfl;cases f5 rfl;cases b6 rfl;cases f3 rfl
        refine rn hA 1 ?_
        refine ow_ ?_
        exact ih dh0 dh1 dh2 dh3 dh4 dh5 dh6 dh7 dh8 dh9 rf rf rf rf rf rf rf f6 f2 f4 e8 e4 e5 e3 d7 d8 e1 e0 e6 e2 rf rf rf rf rf rf c1 rf a9 b7 b8 (cd h0 dhn)
       refine aq (fun h0 h1=> ?_) ?_
       ·
        cases (show i2=false from h0)
        obtain rfl:dB9=true:=h1.1
        cases dh9 rfl;cases e2 rfl;cases dh8 rfl;cases e0 rfl;cases dh6 rfl;cases e1 rfl;cases dh5 rfl;cases d8 rfl;cases dh4 rfl;cases e3 rfl;cases dh2 rfl;cases e5 rfl;cases dh1 rfl;cases e4 rfl;cases dh0 rfl;cases d7 rfl;cases dh3 rfl;cases e6 rfl;cases dh7 rfl
        obtain rfl:i6=true:=h1.2.1
        cases f1 rfl;cases b1 rfl;cases f8 rfl;cases b3 rfl;cases f0 rfl;cases b4 rfl;cases f9 rfl;cases b0 rfl;cases f7 rfl;cases b5 rfl;cases f5 rfl;cases b6 rfl;cases f3 rfl
        refine cvw o5 (.inr rfl) ?_
        refine ow_ ?_
        exact ih rf rf rf rf rf rf rf rf rf rf rf rf rf rf rf rf rf rf f2 f4 e8 rf rf rf rf rf rf rf rf rf rf rf rf rf rf rf rf rf rf b7 b8 (cd h0 dhn)
       refine aq (fun h0 h1=> ?_) ?_
       ·
        cases (show g9=false from h0)
        obtain rfl:i2=true:=h1.1
        cases f6 rfl;cases c1 rfl;cases dh9 rfl;cases e2 rfl;cases dh8 rfl;cases e0 rfl;cases dh6 rfl;cases e1 rfl;cases dh5 rfl;cases d8 rfl;cases dh4 rfl;cases e3 rfl;cases dh2 rfl;cases e5 rfl;cases dh1 rfl;cases e4 rfl;cases dh0 rfl;cases d7 rfl;cases dh3 rfl;cases e6 rfl;cases dh7 rfl;cases b2 rfl;cases f1 rfl;cases b1 rfl;cases f8 rfl;cases b3 rfl;cases f0 rfl;cases b4 rfl;cases f9 rfl;cases b0 rfl;cases f7 rfl;cases b5 rfl;cases f5 rfl;cases b6 rfl;cases f3 rfl
        refine rn hA 1 ?_
        refine ow_ ?_
        exact ih rf rf rf rf rf rf rf rf rf rf rf rf rf rf rf rf rf rf rf f4 e8 rf rf rf rf rf rf rf rf rf rf rf rf rf rf rf rf rf rf rf rf (cd h0 dhn)
       refine aq (fun h0 h1=> ?_) ?_
       ·
        cases (show j1=false from h0)
        obtain rfl:g9=true:=h1.1
        cases f2 rfl;cases a9 rfl;cases f6 rfl;cases c1 rfl;cases dh9 rfl;cases e2 rfl;cases dh8 rfl;cases e0 rfl;cases dh6 rfl;cases e1 rfl;cases dh5 rfl;cases d8 rfl;cases dh4 rfl;cases e3 rfl;cases dh2 rfl;cases e5 rfl;cases dh1 rfl;cases e4 rfl;cases dh0 rfl;cases d7 rfl;cases dh3 rfl;cases e6 rfl;cases dh7 rfl;cases b2 rfl;cases f1 rfl;cases b1 rfl;cases f8 rfl;cases b3 rfl;cases f0 rfl;cases b4 rfl;cases f9 rfl;cases b0 rfl;cases f7 rfl;cases b5 rfl;cases f5 rfl;cases b6 rfl;cases f3 rfl
        refine rn hA 1 ?_
        refine ow_ ?_
        exact ih rf rf rf rf rf rf rf rf rf rf rf rf rf rf rf rf rf rf rf rf e8 rf rf rf rf rf rf rf rf rf rf rf rf rf rf rf rf rf rf rf rf (cd h0 dhn)
       refine aq (fun h0 h1=> ?_) ?_
       ·
        cases (show g8=false from h0)
        obtain rfl:g9=true:=h1.1
        cases f2 rfl;cases a9 rfl;cases f6 rfl;cases c1 rfl;cases dh9 rfl;cases e2 rfl;cases dh8 rfl;cases e0 rfl;cases dh6 rfl;cases e1 rfl;cases dh5 rfl;cases d8 rfl;cases dh4 rfl;cases e3 rfl;cases dh2 rfl;cases e5 rfl;cases dh1 rfl;cases e4 rfl;cases dh0 rfl;cases d7 rfl;cases dh3 rfl;cases e6 rfl;cases dh7 rfl;cases b2 rfl;cases f1 rfl;cases b1 rfl;cases f8 rfl;cases b3 rfl;cases f0 rfl;cases b4 rfl;cases f9 rfl;cases b0 rfl;cases f7 rfl;cases b5 rfl;cases f5 rfl;cases b6 rfl;cases f3 rfl
        refine rn hA 1 ?_
        refine ow_ ?_
        exact ih rf rf rf rf rf rf rf rf rf rf rf rf rf rf rf rf rf rf rf f4 rf rf rf rf rf rf rf rf rf rf rf rf rf rf rf rf rf rf rf rf rf (cd h0 dhn)
       refine aq (fun h0 h1=> ?_) ?_
       ·
        refine rn hA 1 ?_
        refine ops_done (dwp_to [.up 14,.up 13,.up 9,.up 1] (by cbv) rfl ?_)
        exact r0 dn dh0 dh1 dh2 dh3 dh4 dh5 dh6 dh7 dh8 dh9 f5 f7 f9 f3 f0 f8 f1 f6 f2 f4 e8 e4 e5 e3 d7 d8 e1 e0 e6 e2 b5 b0 b4 b6 b3 b1 c1 b2 a9 b7 b8 (cd h0 dhn)
       refine allRdy_q rfl rfl (fun _ h1=>absurd (show false=true from h1.1) (by decide)) ?_
       refine allRdy_q rfl rfl (fun _ h1=>absurd (show false=true from h1.2.1) (by decide)) ?_
       exact trivial
     exact dwp_to [] (by cbv) rfl (@H_ 24 false false false false false false false false false false false false false false false false false false false false false (.bad) (.bad) (.bad) (.bad) (.bad) (.bad) (.bad) (.bad) (.bad) (.bad) (.bad) (.bad) (.bad) (.bad) (.bad) (.bad) (.bad) (.bad) (.bad) (.bad) (.bad) nf nf nf nf nf nf nf nf nf nf nf nf nf nf nf nf nf nf nf nf nf nf nf nf nf nf nf nf nf nf nf nf nf nf nf nf nf nf nf nf nf rfl)
    have hbd:ByteArray.size b9≤10485760:=by rw[k0];exact frI_body hA (vtR_len A) hzq _
    refine gr (rn hA 2 ?_)
    obtain⟨j7,o4,r3⟩:∃(j7:Int),j7=(fsz (⟨c8,c7,b9⟩:GFrame))∧Real Tryz.prog 53 [.agg [.ii c8,.ii c7,.str b9]] (.ii j7):=⟨_,rfl,by exact r_spec_FrameSize A hA (⟨c8,c7,b9⟩:GFrame) (by assumption)⟩
    refine cvw r3 (.inr rfl) ?_
    refine rz hA 2 ?_
    refine gy hA 3 ?_
    refine gy hA 3 ?_
    refine⟨(S28_2 (A.num .add .i64 at2 1) n (A.num .add .i64 sm j7) (A.num .add .i64 n2 1) a4 a6 d6 a3 a7 a8 c2 a5 g1 i0 R),List.length g2 - (k+1),?_,by cbv,k+1,(A.num .add .i64 n2 1),(A.num .add .i64 sm j7),(A.num .add .i64 at2 1),rfl,?_,rfl⟩
    ·
     omega
    have hz1:j7=isz (⟨g4,⟨d4,c4,d9,d1,c6,d5,d0,d3⟩⟩:GItem) e7:=by
     rw[o4,← isz_R hA]
     simp only[m3,m2,k0]
    have hz2:isz ((g2[k]?).getD zItem) e7=j7:=by rw[m5,hz1];rfl
    have hz3:=isz_le (⟨g4,⟨d4,c4,d9,d1,c6,d5,d0,d3⟩⟩:GItem) e7
    have hz4:=liveG_le (needL (keptL a1 a0) (List.length (keptL a1 a0))) (keptL a1 (List.take i a0)).length e7 g2 k
    refine⟨by rw[add_i64 hA (by omega) (by omega)];omega,by omega,?_,by rw[add_i64 hA (by omega) (by omega)];omega⟩
    unfold liveG
    rw[if_pos (by rw[o0,c14]),hz2,add_i64 hA (by omega) (by omega),hs]
   refine gk (gy hA 3 ?_)
   refine gy hA 3 ?_
   refine⟨(S28_2 (A.num .add .i64 at2 1) n sm (A.num .add .i64 n2 1) a4 a6 d6 a3 a7 a8 c2 a5 g1 i0 R),List.length g2 - (k+1),?_,by cbv,k+1,(A.num .add .i64 n2 1),sm,(A.num .add .i64 at2 1),rfl,?_,rfl⟩
   ·
    omega
   refine⟨by rw[add_i64 hA (by omega) (by omega)];omega,by omega,?_,by rw[add_i64 hA (by omega) (by omega)];omega⟩
   unfold liveG
   rw[if_neg (by rw[o0,c14];decide),hs];omega
  have q9:(A.rlen a2)≤n2:=lss_f hA c11
  refine go_exit ⟨fun _=> ?_,fun h=>absurd rfl h⟩
  refine gr (rn hA 3 ?_)
  obtain⟨r20,o7⟩:=nm (R++[[.ii sm]]:RR)
  have o8:r20=List.map eInt ((sizL a1 a0 i)++([(sm:Int)])):=by rw[o7];exact app_eq hR (by rfl)
  have s2:=rlen_map hA o8
  refine ops_step rfl rfl (app_own rfl rfl rfl rfl rfl rfl rfl rfl o7 (by cbv) (by cbv) (by cbv) rfl (by
   show(List.length R+List.length ([[.ii sm]])) * _≤_
   have h5:=sizL_len a1 a0 i
   show(List.length R+1) * 8≤_
   rw[hR,List.length_map];omega) (by decide) (by decide)) ?_
  refine rz hA 1 ?_
  refine gy hA 3 ?_
  refine⟨(S28_1 at2 (A.num .add .i64 n 1) a4 a6 d6 a3 a7 a8 c2 a5 g1 i0 r20),List.length a0 - (i+1),?_,by cbv,i+1,(A.num .add .i64 n 1),at2,r20,rfl,?_,rfl⟩
  ·
   omega
  have hq1:=keptL_at (fr:=a1) j6
  have hsv:segL a1 a0 i=segV a1 a0 i _:=segL_some j6
  rw[if_neg (show ¬ (frB a1 g7=true) by rw[hfr];decide)] at hq1
  have hk9:k=List.length g2:=by omega
  have hsz:segL a1 a0 i=sm:=by
   rw[hsv,segV,if_neg (show ¬ (frB a1 g7=true) by rw[hfr];decide),hs,hk9]
   rfl
  refine⟨by rw[add_i64 hA (by omega) (by omega)];omega,by omega,?_,by rw[hq1,List.length_append];show at2=((_+List.length g2:Nat):Int);omega⟩
  rw[sizL_at,hsz]
  exact o8
 have ec5:(A.rlen a3)≤n:=lss_f hA c5
 refine go_exit ⟨fun _=> ?_,fun h=>absurd rfl h⟩
 refine gx hA 2 ?_
 refine rt (gt ?_)
 refine congrArg (PV.ow 1) ?_
 rw[hR,show i=List.length a0 by omega]
def S13_1 (p0:Int)(p1:Int)(p2:RR):St:={sl:=[.bad,.bad,.bad,.own 7,.ii p0,.ii p1,.bad,.bad,.bad,.bad,.bad,.bad,.bad,.bad,.bad,.bad,.bad,.bad,.bad,.bad,.bad],bl:=[(7,⟨.arr,1,p2⟩)]}
theorem r_spec_LiveBytes (A:Alg)(hA:A=std)(x:GStore)(hz:∀ q∈zsStore x,q≤1048576)(hil:(itemsL x.Log.Used).length≤1048576):Real Tryz.prog 13 [.agg (eStore x)] (.ii (totL x.Freed x.Log.Used (List.length x.Log.Used))):=by
 obtain⟨⟨⟨c0,d2⟩,d6,a0,a7,a8,c2,a5⟩,a1⟩:=x
 obtain⟨a4,e9⟩:=nm (c0.map eString)
 have k1:=rlen_map hA e9
 obtain⟨a6,g0⟩:=nm (d2.map eWrite)
 have l2:=rlen_map hA g0
 obtain⟨a3,g5⟩:=nm (a0.map eSeg)
 have m1:=rlen_map hA g5
 obtain⟨g1,i1⟩:=nm (a1.map eInt)
 have n0:=rlen_map hA i1
 refine real_args (args':=[.agg [.sl 1 a4,.sl 2 a6,.ii d6,.sl 4 a3,.ii a7,.ii a8,.ii c2,.ii a5,.sl 1 g1]]) (by subst e9 g0 g5 i1;rfl) ?_
 have l4:∀ q∈zsLog (⟨⟨c0,d2⟩,d6,a0,a7,a8,c2,a5⟩:GLog),q≤1048576:=fun q hq=>hz q (by simp only[zsStore,List.mem_append];simp only[hq,true_or,or_true])
 have j4:∀ q∈zsDisk (⟨c0,d2⟩:GDisk),q≤1048576:=fun q hq=>l4 q (by simp only[zsLog,List.mem_append];simp only[hq,true_or,or_true])
 have i8:∀ q∈zsStringS c0,q≤1048576:=fun q hq=>j4 q (by simp only[zsDisk,List.mem_append];simp only[hq,true_or,or_true])
 have l3:List.length c0≤1048576:=i8 _ (by simp[zsStringS])
 have j2:∀ q∈zsWriteS d2,q≤1048576:=fun q hq=>j4 q (by simp only[zsDisk,List.mem_append];simp only[hq,true_or,or_true])
 have l6:List.length d2≤1048576:=j2 _ (by simp[zsWriteS])
 have j3:∀ q∈zsSegS a0,q≤1048576:=fun q hq=>l4 q (by simp only[zsLog,List.mem_append];simp only[hq,true_or,or_true])
 have m6:List.length a0≤1048576:=j3 _ (by simp[zsSegS])
 have l7:∀ q∈zsIntS a1,q≤1048576:=fun q hq=>hz q (by simp only[zsStore,List.mem_append];simp only[hq,true_or,or_true])
 have n8:List.length a1≤1048576:=l7 _ (by simp[zsIntS])
 have hil:(itemsL a0).length≤1048576:=hil
 have hzs:=zs_itemsL j3 hil
 have hzk:∀ q∈zsItemS (keptL a1 a0),q≤1048576:=zs_kept hzs
 have hki:=keptL_items a1 a0
 have hsl:=sizL_len a1 a0 (List.length a0)
 refine real tyOk Tryz.func13 (by kernel_rfl) (afun_of rfl ?_)
 refine gx hA 2 ?_
 refine gs (gr (rn hA 1 ?_))
 obtain⟨j9,m8,hc2⟩:∃(j9:RR),j9=List.map eInt (sizL a1 a0 (List.length a0))∧Real Tryz.prog 28 [.agg [.sl 1 a4,.sl 2 a6,.ii d6,.sl 4 a3,.ii a7,.ii a8,.ii c2,.ii a5,.sl 1 g1]] (.ow 1 j9):=⟨_,rfl,by subst e9 g0 g5 i1;exact r_spec_l13Sizes A hA (⟨⟨⟨c0,d2⟩,d6,a0,a7,a8,c2,a5⟩,a1⟩:GStore) (by assumption) hil⟩
 have r9:=rlen_map hA m8
 refine cvw hc2 (.inr rfl) ?_
 refine rz hA 1 ?_
 refine gx hA 1 ?_
 refine gs (gx hA 1 ?_)
 refine go_block ?_
 refine go_loopE (fun σ m=>∃(i:Nat) (n:Int) (sm:Int),σ=(S13_1 sm n j9)∧(n=(i:Int)∧i≤List.length a0∧sm=totL a1 a0 i)∧m=List.length a0 - i) _ [.up 7,.up 1] [3,4,5] [7] (S13_1 0 0 j9) rfl (by cbv) ⟨0,0,0,rfl,?_,rfl⟩ (fun σ m hI=> ?_)
 ·
  exact⟨rfl,Nat.zero_le _,rfl⟩
 obtain⟨i,n,sm,rfl,⟨hn,hi,hs⟩,rfl⟩:=hI
 refine gs (gx hA 4 ?_)
 refine gc (fun c3=> ?_) (fun c3=> ?_)
 ·
  have ec3:n < (A.rlen j9):=lss_t hA c3
  refine gk (gs ?_)
  refine go_block ?_
  refine gr (rn hA 3 ?_)
  have r6:(0:Int)≤n:=by
   omega
  have r2:(Int.toNat n) < List.length (sizL a1 a0 (List.length a0)):=by
   omega
  obtain⟨x4,hx4⟩:∃ x,(sizL a1 a0 (List.length a0))[(Int.toNat n)]? =some x:=⟨_,List.getElem?_eq_getElem r2⟩
  have s1:=List.mem_of_getElem? hx4
  have r4:j9[(Int.toNat n)]? =some [.ii x4]:=by
   exact map_at eInt m8 hx4
  have m7:=hx4
  rw[hn] at m7
  have m7:(sizL a1 a0 (List.length a0))[i]? =some x4:=m7
  have q6:n < (List.length j9:Int):=by
   rw[m8,List.length_map];omega
  refine ops_step rfl rfl (idx_own rfl rfl rfl rfl rfl rfl r6 q6 rfl) ?_
  refine ops_step rfl rfl (ld_arr rfl rfl rfl rfl r4 rfl) ?_
  refine rz hA 2 ?_
  refine gy hA 3 ?_
  refine⟨(S13_1 (A.num .add .i64 sm x4) (A.num .add .i64 n 1) j9),List.length a0 - (i+1),?_,by cbv,i+1,(A.num .add .i64 n 1),(A.num .add .i64 sm x4),rfl,?_,rfl⟩
  ·
   omega
  have hq1:=totL_le a1 a0 i
  have hq2:=segL_le a1 a0 i
  have hq3:=itemsL_le a0 i
  have hq4:=itemsL_le a0 (i+1)
  have hq5:x4=segL a1 a0 i:=sizL_get m7
  refine⟨by rw[add_i64 hA (by omega) (by omega)];omega,by omega,?_⟩
  unfold totL
  rw[add_i64 hA (by omega) (by omega),hs,hq5]
 have ec3:(A.rlen j9)≤n:=lss_f hA c3
 refine go_exit ⟨fun _=> ?_,fun h=>absurd rfl h⟩
 refine gx hA 2 ?_
 refine rt (gt ?_)
 refine congrArg (PV.int .i64) ?_
 rw[hs,show i=List.length a0 by omega]
end Go.Av
