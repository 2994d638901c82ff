/- Walks: what lives in a segment. -/
import Derived.Test.YtjbokkoiicoahaaGreatDoorP2
import Derived.Test.YtjbokkoiicoahaaGreatDoorO5
namespace Go.Av
open Go Go.Proofs
set_option maxRecDepth 100000
set_option maxHeartbeats 4000000
set_option linter.unusedVariables false
set_option linter.unusedSimpArgs false
def S66_1 (p0:Int)(p1:Int)(p2:RR)(p3:Int)(p4:Int)(p5:RR)(p6:RR)(p7:Int)(p8:RR)(p9:Int)(p10:Int)(p11:Int)(p12:Int)(p13:RR):St:={sl:=[.bad,.ii p0,.pt 2 0 0,.bad,.bad,.ii p1,.bad,.bad,.bad,.bad,.bad,.bad,.bad,.bad,.bad,.sl 4 p2,.ii p3,.ii p4,.bad,.bad,.bad,.bad,.bad,.bad,.bad,.bad,.bad,.bad,.bad,.bad,.bad,.bad,.bad,.bad,.bad,.bad,.bad,.bad,.bad,.bad,.bad,.bad,.bad,.bad,.bad,.bad,.bad,.bad,.bad,.bad,.bad,.bad,.bad,.bad,.bad,.bad,.bad,.bad,.bad],bl:=[(2,⟨.var,9,[[.sl 1 p5,.sl 2 p6,.ii p7,.sl 4 p8,.ii p9,.ii p10,.ii p11,.ii p12,.sl 1 p13]]⟩)]}
def S66_2 (p0:Int)(p1:Int)(p2:Int)(p3:RR)(p4:RR):St:={sl:=[.bad,.bad,.bad,.bad,.bad,.ii p0,.bad,.bad,.own 34,.own 35,.bad,.bad,.bad,.bad,.bad,.bad,.bad,.bad,.bad,.bad,.bad,.bad,.bad,.bad,.bad,.bad,.bad,.bad,.bad,.bad,.bad,.bad,.bad,.bad,.bad,.bad,.bad,.bad,.bad,.bad,.bad,.bad,.bad,.ii p1,.ii p2,.bad,.bad,.bad,.bad,.bad,.bad,.bad,.bad,.bad,.bad,.bad,.bad,.bad,.bad],bl:=[(34,⟨.arr,1,p3⟩),(35,⟨.arr,1,p4⟩)]}
theorem r_impl_liveOf (A:Alg)(hA:A=std)(x:GStore)(i:Int)(hz:∀ q∈zsStore x,q≤1048576)(hil:(itemsL x.Log.Used).length≤1048576)(h0:0≤i)(h1:i < (List.length x.Log.Used:Int))(hfr:∀ y,x.Log.Used[Int.toNat i]? =some y→frB x.Freed y.No=false):Real Tryz.prog 66 [.agg (eStore x),.ii i] (.ow 1 (List.map eInt (plcA x.Freed x.Log.Used (Int.toNat i)))):=by
 obtain⟨⟨⟨a6,b0⟩,b4,a0,a7,a8,b3,a3⟩,a1⟩:=x
 obtain⟨a4,a9⟩:=nm (a6.map eString)
 have c1:=rlen_map hA a9
 obtain⟨a5,b1⟩:=nm (b0.map eWrite)
 have d1:=rlen_map hA b1
 obtain⟨a2,b2⟩:=nm (a0.map eSeg)
 have c9:=rlen_map hA b2
 obtain⟨b5,b6⟩:=nm (a1.map eInt)
 have e8:=rlen_map hA b6
 refine real_args (args':=[.agg [.sl 1 a4,.sl 2 a5,.ii b4,.sl 4 a2,.ii a7,.ii a8,.ii b3,.ii a3,.sl 1 b5],.ii i]) (by subst a9 b1 b2 b6;rfl) ?_
 have f4:∀ q∈zsLog (⟨⟨a6,b0⟩,b4,a0,a7,a8,b3,a3⟩:GLog),q≤1048576:=fun q hq=>hz q (by simp only[zsStore,List.mem_append];simp only[hq,true_or,or_true])
 have d5:∀ q∈zsDisk (⟨a6,b0⟩:GDisk),q≤1048576:=fun q hq=>f4 q (by simp only[zsLog,List.mem_append];simp only[hq,true_or,or_true])
 have d0:∀ q∈zsStringS a6,q≤1048576:=fun q hq=>d5 q (by simp only[zsDisk,List.mem_append];simp only[hq,true_or,or_true])
 have f1:List.length a6≤1048576:=d0 _ (by simp[zsStringS])
 have d4:∀ q∈zsWriteS b0,q≤1048576:=fun q hq=>d5 q (by simp only[zsDisk,List.mem_append];simp only[hq,true_or,or_true])
 have f6:List.length b0≤1048576:=d4 _ (by simp[zsWriteS])
 have d6:∀ q∈zsSegS a0,q≤1048576:=fun q hq=>f4 q (by simp only[zsLog,List.mem_append];simp only[hq,true_or,or_true])
 have i3:List.length a0≤1048576:=d6 _ (by simp[zsSegS])
 have f7:∀ q∈zsIntS a1,q≤1048576:=fun q hq=>hz q (by simp only[zsStore,List.mem_append];simp only[hq,true_or,or_true])
 have j6:List.length a1≤1048576:=f7 _ (by simp[zsIntS])
 have hil:(itemsL a0).length≤1048576:=hil
 have hzs:=zs_itemsL d6 hil
 have hzk:∀ q∈zsItemS (keptL a1 a0),q≤1048576:=zs_kept hzs
 have hki:=keptL_items a1 a0
 have h1:i < (List.length a0:Int):=h1
 have hfr:∀ y,a0[Int.toNat i]? =some y→frB a1 y.No=false:=hfr
 have hlt:List.length (List.take (Int.toNat i) a0)=Int.toNat i:=by rw[List.length_take];omega
 refine real tyOk Tryz.func66 (by kernel_rfl) (afun_of rfl ?_)
 refine gx hA 2 ?_
 refine gx hA 1 ?_
 refine gs (gs (gr (rn hA 4 ?_)))
 obtain⟨u1,hu1⟩:=nm ((List.drop (Int.toNat 0) a2).take (Int.toNat i - Int.toNat 0):RR)
 have eu1:u1=List.map eSeg (List.take (Int.toNat i) a0):=by rw[hu1,b2];exact(List.map_take ..).symm
 have lu1:=rlen_map hA eu1
 refine ops_step rfl rfl (slc_sl rfl rfl rfl rfl rfl rfl (by decide) (by omega) (by rw[b2,List.length_map];omega) rfl hu1) ?_
 refine rz hA 2 ?_
 refine go_block ?_
 refine go_loopE (fun σ m=>∃(a:Nat) (n:Int) (bf:Int),σ=(S66_1 i bf u1 (A.rlen u1) n a4 a5 b4 a2 a7 a8 b3 a3 b5)∧(n=(a:Int)∧a≤Int.toNat i∧bf=((keptL a1 (List.take a a0)).length:Int))∧m=Int.toNat i - a) _ [.up 2] [1,2,5,15,16,17] [2] (S66_1 i 0 u1 (A.rlen u1) 0 a4 a5 b4 a2 a7 a8 b3 a3 b5) rfl (by cbv) ⟨0,0,0,rfl,?_,rfl⟩ (fun σ m hI=> ?_)
 ·
  exact⟨rfl,Nat.zero_le _,rfl⟩
 obtain⟨a,n,bf,rfl,⟨hn,ha,hbf⟩,rfl⟩:=hI
 refine gx hA 1 ?_
 refine gs ?_
 refine gc (fun c2=> ?_) (fun c2=> ?_)
 ·
  have ec2:n < (A.rlen u1):=lss_t hA c2
  refine gk (gs ?_)
  refine go_block ?_
  refine gs (gr ?_)
  have j5:(0:Int)≤n:=by
   omega
  have j1:(Int.toNat n) < List.length (List.take (Int.toNat i) a0):=by
   omega
  obtain⟨x3,hx3⟩:∃ x,((List.take (Int.toNat i) a0))[(Int.toNat n)]? =some x:=⟨_,List.getElem?_eq_getElem j1⟩
  have k6:=List.mem_of_getElem? hx3
  obtain⟨c0,e6,e5,c4⟩:=x3
  obtain⟨c5,d7⟩:=nm (c4.map eItem)
  have i2:=rlen_map hA d7
  have j4:u1[(Int.toNat n)]? =some [.ii c0,.ii e6,.ii e5,.sl 9 c5]:=by
   subst d7;exact map_at eSeg eu1 hx3
  have f0:=hx3
  rw[hn] at f0
  have f0:((List.take (Int.toNat i) a0))[a]? =some (⟨c0,e6,e5,c4⟩:GSeg):=f0
  have g8:a0[a]? =some (⟨c0,e6,e5,c4⟩:GSeg):=take_get f0
  refine ops_step rfl rfl (idx_sl rfl rfl rfl rfl rfl j5 rfl j4) ?_
  refine rz hA 3 ?_
  refine gs (gr (rn hA 3 ?_))
  obtain⟨e0,f5,hc5⟩:∃(e0:Bool),e0=(frB a1 c0)∧Real Tryz.prog 92 [.agg [.sl 1 a4,.sl 2 a5,.ii b4,.sl 4 a2,.ii a7,.ii a8,.ii b3,.ii a3,.sl 1 b5],.ii c0] (.bool e0):=⟨_,rfl,by subst a9 b1 b2 b6;exact r_impl_isFreed A hA (⟨⟨⟨a6,b0⟩,b4,a0,a7,a8,b3,a3⟩,a1⟩:GStore) c0 (by assumption)⟩
  refine cvw hc5 (.inr rfl) ?_
  refine rz hA 1 ?_
  refine gc (fun c6=> ?_) (fun c6=> ?_)
  ·
   have c7:e0=false:=bnot_t hA c6
   refine gy hA 6 ?_
   refine gy hA 2 ?_
   refine⟨(S66_1 i (A.num .add .i64 bf (A.rlen c5)) u1 (A.rlen u1) (A.num .add .i64 n 1) a4 a5 b4 a2 a7 a8 b3 a3 b5),Int.toNat i - (a+1),?_,by cbv,a+1,(A.num .add .i64 n 1),(A.num .add .i64 bf (A.rlen c5)),rfl,?_,rfl⟩
   ·
    omega
   have hq:=keptL_at (fr:=a1) g8
   rw[if_neg (by show ¬ (frB a1 c0=true);rw[← f5,c7];decide)] at hq
   have hq2:=keptL_le a1 a0 a
   have hq3:=keptL_le a1 a0 (a+1)
   have hq4:(keptL a1 (List.take (a+1) a0)).length=(keptL a1 (List.take a a0)).length+List.length c4:=by rw[hq,List.length_append]
   refine⟨by rw[add_i64 hA (by omega) (by omega)];omega,by omega,?_⟩
   rw[add_i64 hA (by omega) (by omega)]
   omega
  have c8:e0=true:=bnot_f hA c6
  refine gk (gy hA 2 ?_)
  refine⟨(S66_1 i bf u1 (A.rlen u1) (A.num .add .i64 n 1) a4 a5 b4 a2 a7 a8 b3 a3 b5),Int.toNat i - (a+1),?_,by cbv,a+1,(A.num .add .i64 n 1),bf,rfl,?_,rfl⟩
  ·
   omega
  refine⟨by rw[add_i64 hA (by omega) (by omega)];omega,by omega,?_⟩
  rw[keptL_at g8,if_pos (by show frB a1 c0=true;rw[← f5,c8])]
  exact hbf
 have ec2:(A.rlen u1)≤n:=lss_f hA c2
 refine go_exit ⟨fun _=> ?_,fun h=>absurd rfl h⟩
 refine gs ?_
 have hbi:bf=((keptL a1 (List.take (Int.toNat i) a0)).length:Int):=by rw[hbf,show a=Int.toNat i by omega]
 refine gr (rn hA 1 ?_)
 obtain⟨e2,f2,k0⟩:∃(e2:RR),e2=List.map eoItem (keptL a1 a0)∧Real Tryz.prog 94 [.agg [.sl 1 a4,.sl 2 a5,.ii b4,.sl 4 a2,.ii a7,.ii a8,.ii b3,.ii a3,.sl 1 b5]] (.ow 9 e2):=⟨_,rfl,by subst a9 b1 b2 b6;exact r_impl_keptItems A hA (⟨⟨⟨a6,b0⟩,b4,a0,a7,a8,b3,a3⟩,a1⟩:GStore) (by assumption) hil⟩
 have k2:=rlen_map hA f2
 refine cvw k0 (.inr rfl) ?_
 obtain⟨b9,d3,j2⟩:∃(b9:RR),b9=List.map eBool (needL (keptL a1 a0) (List.length (keptL a1 a0)))∧Real Tryz.prog 93 [.sl 9 (eraseR e2)] (.ow 1 b9):=⟨_,rfl,by subst f2;simp only[erR_Item];exact r_impl_NeededAll A hA (keptL a1 a0) (by assumption)⟩
 have k1:=rlen_map hA d3
 refine cvw j2 (.inl (by simp only[fresh,freshL,d3,frR_Bool,and_self])) ?_
 refine rz hA 1 ?_
 refine gx hA 2 ?_
 refine gs (gs (gr (rn hA 4 ?_)))
 have i7:(0:Int)≤i:=by
  omega
 have i4:(Int.toNat i) < List.length a0:=by
  omega
 obtain⟨x13,e4⟩:∃ x,(a0)[(Int.toNat i)]? =some x:=⟨_,List.getElem?_eq_getElem i4⟩
 have k3:=List.mem_of_getElem? e4
 obtain⟨f3,g1,g2,b8⟩:=x13
 obtain⟨b7,d2⟩:=nm (b8.map eItem)
 have i0:=rlen_map hA d2
 have i9:a2[(Int.toNat i)]? =some [.ii f3,.ii g1,.ii g2,.sl 9 b7]:=by
  subst d2;exact map_at eSeg b2 e4
 have i8:frB a1 f3=false:=hfr _ e4
 have hrm:=kept_room e4 i8
 have hrm:(keptL a1 (List.take (Int.toNat i) a0)).length+List.length b8≤(keptL a1 a0).length:=hrm
 have hnl:=needL_len (keptL a1 a0) (keptL a1 a0).length
 refine ops_step rfl rfl (idx_sl rfl rfl rfl rfl rfl i7 rfl i9) ?_
 refine rz hA 4 ?_
 refine go_block ?_
 refine go_loopE (fun σ m=>∃(k:Nat) (n2:Int) (R:RR),σ=(S66_2 bf (A.rlen b7) n2 b9 R)∧(n2=(k:Int)∧k≤List.length b8∧R=List.map eInt (plc (needL (keptL a1 a0) (List.length (keptL a1 a0))) (keptL a1 (List.take (Int.toNat i) a0)).length k))∧m=List.length b8 - k) _ [.up 35,.up 34,.up 33,.up 2] [5,8,9,43,44] [34,35] (S66_2 bf (A.rlen b7) 0 b9 ([])) rfl (by cbv) ⟨0,0,[],rfl,?_,rfl⟩ (fun σ m hI=> ?_)
 ·
  exact⟨rfl,Nat.zero_le _,rfl⟩
 obtain⟨k,n2,R,rfl,⟨hk,hkl,hR⟩,rfl⟩:=hI
 refine gx hA 1 ?_
 refine gs ?_
 refine gc (fun c14=> ?_) (fun c14=> ?_)
 ·
  have j7:n2 < (A.rlen b7):=lss_t hA c14
  refine gk (gs ?_)
  refine go_block ?_
  refine gx hA 2 ?_
  refine gs ?_
  have wadd:A.num .add .i64 bf n2=bf+n2:=add_i64 hA (by omega) (by omega)
  refine gr (rn hA 4 ?_)
  have i6:(0:Int)≤(A.num .add .i64 bf n2):=by
   omega
  have i5:(Int.toNat (A.num .add .i64 bf n2)) < List.length (needL (keptL a1 a0) (List.length (keptL a1 a0))):=by
   omega
  obtain⟨x15,f8⟩:∃ x,(needL (keptL a1 a0) (List.length (keptL a1 a0)))[(Int.toNat (A.num .add .i64 bf n2))]? =some x:=⟨_,List.getElem?_eq_getElem i5⟩
  have k4:=List.mem_of_getElem? f8
  have j0:b9[(Int.toNat (A.num .add .i64 bf n2))]? =some [.bool x15]:=by
   exact map_at eBool d3 f8
  have g0:ndB (needL (keptL a1 a0) (List.length (keptL a1 a0))) ((keptL a1 (List.take (Int.toNat i) a0)).length+k)=x15:=ndB_get (by have h:=f8;rw[show Int.toNat _=(keptL a1 (List.take (Int.toNat i) a0)).length+k by omega] at h;exact h)
  have g9:(A.num .add .i64 bf n2) < (List.length b9:Int):=by
   rw[d3,List.length_map];omega
  refine ops_step rfl rfl (idx_own rfl rfl rfl rfl rfl rfl i6 g9 rfl) ?_
  refine ops_step rfl rfl (ld_arr rfl rfl rfl rfl j0 rfl) ?_
  refine od ?_
  refine gc (fun c17=> ?_) (fun c17=> ?_)
  ·
   refine gr (rn hA 3 ?_)
   obtain⟨r18,g7⟩:=nm (R++[[.ii n2]]:RR)
   have g6:r18=List.map eInt ((plc (needL (keptL a1 a0) (List.length (keptL a1 a0))) (keptL a1 (List.take (Int.toNat i) a0)).length k)++([(n2:Int)])):=by rw[g7];exact app_eq hR (by rfl)
   have k7:=rlen_map hA g6
   refine ops_step rfl rfl (app_own rfl rfl rfl rfl rfl rfl rfl rfl g7 (by cbv) (by cbv) (by cbv) rfl (by
    show(List.length R+List.length ([[.ii n2]])) * _≤_
    have h5:=plc_len (needL (keptL a1 a0) (List.length (keptL a1 a0))) (keptL a1 (List.take (Int.toNat i) a0)).length k
    show(List.length R+1) * 8≤_
    rw[hR,List.length_map];omega) (by decide) (by decide)) ?_
   refine rz hA 1 ?_
   refine gy hA 2 ?_
   refine⟨(S66_2 bf (A.rlen b7) (A.num .add .i64 n2 1) b9 r18),List.length b8 - (k+1),?_,by cbv,k+1,(A.num .add .i64 n2 1),r18,rfl,?_,rfl⟩
   ·
    omega
   refine⟨by rw[add_i64 hA (by omega) (by omega)];omega,by omega,?_⟩
   unfold plc
   rw[if_pos (by rw[g0,c17])]
   exact by rw[← hk];exact g6
  refine gk (gy hA 2 ?_)
  refine⟨(S66_2 bf (A.rlen b7) (A.num .add .i64 n2 1) b9 R),List.length b8 - (k+1),?_,by cbv,k+1,(A.num .add .i64 n2 1),R,rfl,?_,rfl⟩
  ·
   omega
  refine⟨by rw[add_i64 hA (by omega) (by omega)];omega,by omega,?_⟩
  unfold plc
  rw[if_neg (by rw[g0,c17];decide)]
  exact hR
 have j7:(A.rlen b7)≤n2:=lss_f hA c14
 refine go_exit ⟨fun _=> ?_,fun h=>absurd rfl h⟩
 refine gx hA 2 ?_
 refine rt (gt ?_)
 refine congrArg (PV.ow 1) ?_
 rw[hR,plcA_some e4,show k=List.length b8 by omega]
 rfl
theorem r_impl_segAt (A:Alg)(hA:A=std)(x:GStore)(i:Int)(hn:List.length x.Log.Used≤1048576)(hf:List.length x.Freed≤1048576):Real Tryz.prog 65 [.agg (eStore x),.ii i] (.bool (segAtB x.Freed x.Log.Used i)):=by
 obtain⟨⟨⟨a6,b0⟩,b4,a0,a7,a8,b3,a3⟩,a1⟩:=x
 obtain⟨a4,a9⟩:=nm (a6.map eString)
 have c1:=rlen_map hA a9
 obtain⟨a5,b1⟩:=nm (b0.map eWrite)
 have d1:=rlen_map hA b1
 obtain⟨a2,b2⟩:=nm (a0.map eSeg)
 have c9:=rlen_map hA b2
 obtain⟨b5,b6⟩:=nm (a1.map eInt)
 have e8:=rlen_map hA b6
 refine real_args (args':=[.agg [.sl 1 a4,.sl 2 a5,.ii b4,.sl 4 a2,.ii a7,.ii a8,.ii b3,.ii a3,.sl 1 b5],.ii i]) (by subst a9 b1 b2 b6;rfl) ?_
 have hn:List.length a0≤1048576:=hn
 have hf:List.length a1≤1048576:=hf
 have wsub:A.num .sub .i64 (A.rlen a2) 1=(List.length a0:Int) - 1:=by rw[c9];exact sub_i64 hA (by omega) (by omega)
 refine real tyOk Tryz.func65 (by kernel_rfl) (afun_of rfl ?_)
 refine gx hA 2 ?_
 refine gs ?_
 refine go_draw [0,1,2,3,4,5,6,7,8,9,10,11,12,13,14,15,16,17,18,19] (by cbv) ?_
 refine dn_ hA 6 ?_
 obtain⟨e9,d9,hc2⟩:∃(e9:Bool),e9=(inR i 0 (A.num .sub .i64 (A.rlen a2) 1))∧Real Tryz.prog 91 [.ii i,.ii 0,.ii (A.num .sub .i64 (A.rlen a2) 1)] (.bool e9):=⟨_,rfl,by exact r_impl_in A hA i 0 (A.num .sub .i64 (A.rlen a2) 1)⟩
 refine dops_callV rfl rfl (by cbv) (by cbv) hc2 (.inr rfl) ?_
 refine dn_ hA 1 ?_
 refine dops_split 12 rfl (fun c3=> ?_) (fun c3=> ?_)
 ·
  refine dn_ hA 5 ?_
  have j8:(0:Int)≤i:=by
   have hI:(inR i 0 (A.num .sub .i64 (A.rlen a2) 1))=true:=by rw[← d9,c3]
   rw[wsub] at hI
   simp only[inR,Bool.and_eq_true,decide_eq_true_eq] at hI
   omega
  have j9:(Int.toNat i) < List.length a0:=by
   have hI:(inR i 0 (A.num .sub .i64 (A.rlen a2) 1))=true:=by rw[← d9,c3]
   rw[wsub] at hI
   simp only[inR,Bool.and_eq_true,decide_eq_true_eq] at hI
   omega
  obtain⟨x4,hx4⟩:∃ x,(a0)[(Int.toNat i)]? =some x:=⟨_,List.getElem?_eq_getElem j9⟩
  have k5:=List.mem_of_getElem? hx4
  obtain⟨e1,g5,g3,f9⟩:=x4
  obtain⟨e7,d8⟩:=nm (f9.map eItem)
  have i1:=rlen_map hA d8
  have j3:a2[(Int.toNat i)]? =some [.ii e1,.ii g5,.ii g3,.sl 9 e7]:=by
   subst d8;exact map_at eSeg b2 hx4
  refine dops_stepG rfl rfl rfl rfl rfl (idx_sl rfl rfl rfl rfl rfl j8 rfl j3) ?_
  refine dn_ hA 2 ?_
  obtain⟨e3,g4,hc6⟩:∃(e3:Bool),e3=(frB a1 e1)∧Real Tryz.prog 92 [.agg [.sl 1 a4,.sl 2 a5,.ii b4,.sl 4 a2,.ii a7,.ii a8,.ii b3,.ii a3,.sl 1 b5],.ii e1] (.bool e3):=⟨_,rfl,by subst a9 b1 b2 b6;exact r_impl_isFreed A hA (⟨⟨⟨a6,b0⟩,b4,a0,a7,a8,b3,a3⟩,a1⟩:GStore) e1 (by assumption)⟩
  refine dops_callG rfl rfl rfl rfl (by cbv) (by cbv) hc6 (.inr rfl) ?_
  refine dz hA 3 ?_
  refine rt (gt ?_)
  show _=(PV.bool (A.bnot e3))
  refine congrArg PV.bool ?_
  have hI:=c3
  rw[d9,wsub] at hI
  simp only[inR,Bool.and_eq_true,decide_eq_true_eq,decide_eq_false_iff_not] at hI
  show segAtB a1 a0 i=_
  rw[segAt_some (by omega) hx4]
  show(!(frB a1 e1))=_
  rw[← g4]
  subst hA
  rfl
 refine dz hA 12 ?_
 refine rt (gt ?_)
 refine congrArg PV.bool ?_
 have hI:=c3
 rw[d9,wsub] at hI
 simp only[inR,Bool.and_eq_false_iff,decide_eq_true_eq,decide_eq_false_iff_not] at hI
 show segAtB a1 a0 i=_
 exact segAt_out (by omega)
end Go.Av
