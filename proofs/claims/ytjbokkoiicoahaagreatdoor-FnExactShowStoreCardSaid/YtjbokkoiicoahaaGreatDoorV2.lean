/- Walks: to of stores. -/
import Derived.Test.YtjbokkoiicoahaaGreatDoorTy
namespace Go.Av
open Go Go.Proofs
set_option maxRecDepth 100000
set_option maxHeartbeats 4000000
set_option linter.unusedVariables false
set_option linter.unusedSimpArgs false
def S60_1 (p0:RR)(p1:Int)(p2:RR):St:={sl:=[.sl 1 p0,.bad,.bad,.own 7,.ii p1,.bad,.bad,.bad,.bad,.bad,.bad,.bad,.bad,.bad,.bad,.bad,.bad,.bad,.bad,.bad,.bad,.bad],bl:=[(7,⟨.arr,1,p2⟩)]}
theorem r_laws_toStringS (A:Alg)(hA:A=std)(xs:List ByteArray)(hk:∀ k∈zsStringS xs,k≤1048576):Real Tryz.prog 60 [.sl 1 (List.map eString xs)] (.ow 1 (List.map eString xs)):=by
 obtain⟨a0,a2⟩:=nm (xs.map eString)
 have e1:=rlen_map hA a2
 refine real_args (args':=[.sl 1 a0]) (by subst a2;rfl) ?_
 have hlen:List.length xs≤1048576:=hk _ (by simp[zsStringS])
 refine real tyOk Tryz.func60 (by kernel_rfl) (afun_of rfl ?_)
 refine gx hA 1 ?_
 refine gs (gr (rn hA 2 ?_))
 obtain⟨rm,hrm⟩:=nm (List.replicate (Int.toNat (A.rlen a0)) [.str ByteArray.empty]:RR)
 have hn0:(0:Int)≤A.rlen a0:=by omega
 have hmax:A.rlen a0 * 16≤140737488355328:=by omega
 refine ops_step rfl rfl (mk_arr rfl rfl rfl rfl rfl rfl hn0 hmax (by decide) (by decide) rfl hrm) ?_
 refine rz hA 1 ?_
 refine gs (gx hA 1 ?_)
 refine go_block ?_
 refine go_loopE (fun σ m=>∃(i:Nat) (ro:RR) (n4:Int),σ=(S60_1 a0 n4 ro)∧(n4=(i:Int)∧i≤List.length xs∧ro=fill eString [.str ByteArray.empty] xs i)∧m=List.length xs - i) _ [] [0,3,4] [7] (S60_1 a0 0 rm) rfl (by cbv) ⟨0,rm,0,rfl,?_,rfl⟩ (fun σ m hI=> ?_)
 ·
  exact⟨rfl,Nat.zero_le _,by rw[hrm,fill_zero,e1];rfl⟩
 obtain⟨i,ro,n4,rfl,⟨hn4,hi,hro⟩,rfl⟩:=hI
 refine gs (gx hA 4 ?_)
 refine gc (fun c1=> ?_) (fun c1=> ?_)
 ·
  have ec1:n4 < (A.rlen a0):=lss_t hA c1
  refine gk (gs ?_)
  refine go_block ?_
  refine gr (rn hA 4 ?_)
  have f7:(0:Int)≤n4:=by
   omega
  have f5:(Int.toNat n4) < List.length xs:=by
   omega
  obtain⟨x2,hx2⟩:∃ x,(xs)[(Int.toNat n4)]? =some x:=⟨_,List.getElem?_eq_getElem f5⟩
  have i5:=List.mem_of_getElem? hx2
  have g1:a0[(Int.toNat n4)]? =some [.str x2]:=by
   exact map_at eString a2 hx2
  refine ops_step rfl rfl (idx_sl rfl rfl rfl rfl rfl f7 rfl g1) ?_
  refine rn hA 1 ?_
  have hlo:n4 < (List.length ro:Int):=by
   rw[hro,fill_len _ _ _ hi];omega
  refine ops_step rfl rfl (idx_own rfl rfl rfl rfl rfl rfl (by omega) hlo rfl) ?_
  have a1:=hx2
  rw[hn4] at a1
  have a1:xs[i]? =some _:=a1
  have hz:ro[Int.toNat n4]? =some [.str ByteArray.empty]:=by
   rw[hro,hn4];exact fill_at _ _ _ (by omega)
  have hset:fill eString [.str ByteArray.empty] xs (i+1)=ro.set (Int.toNat n4) [.str x2]:=by
   rw[hro,hn4];exact(fill_set eString _ xs a1).symm
  obtain⟨ro2,d0⟩:∃ r,r=fill eString [.str ByteArray.empty] xs (i+1):=⟨_,rfl⟩
  rw[← d0] at hset
  refine ops_step rfl rfl (sto_arr (r:=[.str ByteArray.empty]) (cs:=[.str x2]) rfl rfl rfl rfl rfl ⟨_,_,rfl⟩ rfl rfl hz rfl hset) ?_
  refine od ?_
  refine gy hA 3 ?_
  refine⟨(S60_1 a0 (A.num .add .i64 n4 1) ro2),List.length xs - (i+1),?_,by cbv,i+1,ro2,(A.num .add .i64 n4 1),rfl,?_,rfl⟩
  ·
   omega
  exact⟨by rw[add_i64 hA (by omega) (by omega)];omega,by omega,d0⟩
 have ec1:(A.rlen a0)≤n4:=lss_f hA c1
 refine go_exit ⟨fun _=> ?_,fun h=>absurd rfl h⟩
 refine gx hA 2 ?_
 refine rt (gt ?_)
 refine congrArg (PV.ow 1) ?_
 rw[hro,fill_all _ _ _ (by omega)]
theorem r_laws_toWrite (A:Alg)(hA:A=std)(x:GWrite)(hk:∀ k∈zsWrite x,k≤1048576):Real Tryz.prog 88 [.agg (eWrite x)] (.agg (eoWrite x)):=by
 obtain⟨m6,g4⟩:=x
 refine real_args (args':=[.agg [.ii m6,.str g4]]) (by rfl) ?_
 refine real tyOk Tryz.func88 (by kernel_rfl) (afun_of rfl ?_)
 refine gx hA 2 ?_
 refine gx hA 1 ?_
 refine gx hA 4 ?_
 refine gx hA 4 ?_
 refine gx hA 2 ?_
 refine rt (gt ?_)
 show _=(PV.agg [.ii m6,.str g4])
 rfl
def S61_1 (p0:RR)(p1:Int)(p2:RR):St:={sl:=[.sl 2 p0,.bad,.bad,.own 7,.ii p1,.bad,.bad,.bad,.bad,.bad,.bad,.bad,.bad,.bad,.bad,.bad,.bad,.bad,.bad,.bad,.bad,.bad,.bad],bl:=[(7,⟨.arr,2,p2⟩)]}
theorem r_laws_toWriteS (A:Alg)(hA:A=std)(xs:List GWrite)(hk:∀ k∈zsWriteS xs,k≤1048576):Real Tryz.prog 61 [.sl 2 (List.map eWrite xs)] (.ow 2 (List.map eoWrite xs)):=by
 obtain⟨a0,a2⟩:=nm (xs.map eWrite)
 have e1:=rlen_map hA a2
 refine real_args (args':=[.sl 2 a0]) (by subst a2;rfl) ?_
 have hlen:List.length xs≤1048576:=hk _ (by simp[zsWriteS])
 refine real tyOk Tryz.func61 (by kernel_rfl) (afun_of rfl ?_)
 refine gx hA 1 ?_
 refine gs (gr (rn hA 2 ?_))
 obtain⟨rm,hrm⟩:=nm (List.replicate (Int.toNat (A.rlen a0)) [.ii 0,.str ByteArray.empty]:RR)
 have hn0:(0:Int)≤A.rlen a0:=by omega
 have hmax:A.rlen a0 * 24≤140737488355328:=by omega
 refine ops_step rfl rfl (mk_arr rfl rfl rfl rfl rfl rfl hn0 hmax (by decide) (by decide) rfl hrm) ?_
 refine rz hA 1 ?_
 refine gs (gx hA 1 ?_)
 refine go_block ?_
 refine go_loopE (fun σ m=>∃(i:Nat) (ro:RR) (n4:Int),σ=(S61_1 a0 n4 ro)∧(n4=(i:Int)∧i≤List.length xs∧ro=fill eoWrite [.ii 0,.str ByteArray.empty] xs i)∧m=List.length xs - i) _ [] [0,3,4] [7] (S61_1 a0 0 rm) rfl (by cbv) ⟨0,rm,0,rfl,?_,rfl⟩ (fun σ m hI=> ?_)
 ·
  exact⟨rfl,Nat.zero_le _,by rw[hrm,fill_zero,e1];rfl⟩
 obtain⟨i,ro,n4,rfl,⟨hn4,hi,hro⟩,rfl⟩:=hI
 refine gs (gx hA 4 ?_)
 refine gc (fun c1=> ?_) (fun c1=> ?_)
 ·
  have ec1:n4 < (A.rlen a0):=lss_t hA c1
  refine gk (gs ?_)
  refine go_block ?_
  refine gr (rn hA 4 ?_)
  have f7:(0:Int)≤n4:=by
   omega
  have f5:(Int.toNat n4) < List.length xs:=by
   omega
  obtain⟨x2,hx2⟩:∃ x,(xs)[(Int.toNat n4)]? =some x:=⟨_,List.getElem?_eq_getElem f5⟩
  have i5:=List.mem_of_getElem? hx2
  obtain⟨i0,e4⟩:=x2
  have g1:a0[(Int.toNat n4)]? =some [.ii i0,.str e4]:=by
   exact map_at eWrite a2 hx2
  have hkx:=fun(k:Nat) h=>hk k (List.mem_cons_of_mem _ (List.mem_flatMap.2 ⟨_,i5,h⟩))
  refine ops_step rfl rfl (idx_sl rfl rfl rfl rfl rfl f7 rfl g1) ?_
  refine rn hA 1 ?_
  have hc4:Real Tryz.prog 88 [.agg [.ii i0,.str e4]] (.agg [.ii i0,.str e4]):=by exact r_laws_toWrite A hA (⟨i0,e4⟩:GWrite) hkx
  refine cvw hc4 (.inr rfl) ?_
  have hlo:n4 < (List.length ro:Int):=by
   rw[hro,fill_len _ _ _ hi];omega
  refine ops_step rfl rfl (idx_own rfl rfl rfl rfl rfl rfl (by omega) hlo rfl) ?_
  have a1:=hx2
  rw[hn4] at a1
  have a1:xs[i]? =some _:=a1
  have hz:ro[Int.toNat n4]? =some [.ii 0,.str ByteArray.empty]:=by
   rw[hro,hn4];exact fill_at _ _ _ (by omega)
  have hset:fill eoWrite [.ii 0,.str ByteArray.empty] xs (i+1)=ro.set (Int.toNat n4) [.ii i0,.str e4]:=by
   rw[hro,hn4];exact(fill_set eoWrite _ xs a1).symm
  obtain⟨ro2,d0⟩:∃ r,r=fill eoWrite [.ii 0,.str ByteArray.empty] xs (i+1):=⟨_,rfl⟩
  rw[← d0] at hset
  refine ops_step rfl rfl (sto_arr (r:=[.ii 0,.str ByteArray.empty]) (cs:=[.ii i0,.str e4]) rfl rfl rfl rfl rfl ⟨_,_,rfl⟩ rfl rfl hz rfl hset) ?_
  refine od ?_
  refine gy hA 3 ?_
  refine⟨(S61_1 a0 (A.num .add .i64 n4 1) ro2),List.length xs - (i+1),?_,by cbv,i+1,ro2,(A.num .add .i64 n4 1),rfl,?_,rfl⟩
  ·
   omega
  exact⟨by rw[add_i64 hA (by omega) (by omega)];omega,by omega,d0⟩
 have ec1:(A.rlen a0)≤n4:=lss_f hA c1
 refine go_exit ⟨fun _=> ?_,fun h=>absurd rfl h⟩
 refine gx hA 2 ?_
 refine rt (gt ?_)
 refine congrArg (PV.ow 2) ?_
 rw[hro,fill_all _ _ _ (by omega)]
theorem r_laws_toDisk (A:Alg)(hA:A=std)(x:GDisk)(hk:∀ k∈zsDisk x,k≤1048576):Real Tryz.prog 33 [.agg (eDisk x)] (.agg (eoDisk x)):=by
 obtain⟨g5,i9⟩:=x
 obtain⟨i3,e6⟩:=nm (g5.map eString)
 have m5:=rlen_map hA e6
 obtain⟨j1,f6⟩:=nm (i9.map eWrite)
 have n3:=rlen_map hA f6
 refine real_args (args':=[.agg [.sl 1 i3,.sl 2 j1]]) (by subst e6 f6;rfl) ?_
 refine real tyOk Tryz.func33 (by kernel_rfl) (afun_of rfl ?_)
 refine gx hA 2 ?_
 refine gx hA 1 ?_
 refine gs (gr (rn hA 2 ?_))
 obtain⟨k4,m0,hc2⟩:∃(k4:RR),k4=List.map eString g5∧Real Tryz.prog 60 [.sl 1 i3] (.ow 1 k4):=⟨_,rfl,by subst e6;exact r_laws_toStringS A hA g5 (fun k h=>hk k (by simp only[zsDisk,List.mem_append];simp only[h,true_or,or_true]))⟩
 have n9:=rlen_map hA m0
 refine cvw hc2 (.inr rfl) ?_
 refine rz hA 2 ?_
 refine gs (gr (rn hA 2 ?_))
 obtain⟨e2,g3,hc4⟩:∃(e2:RR),e2=List.map eoWrite i9∧Real Tryz.prog 61 [.sl 2 j1] (.ow 2 e2):=⟨_,rfl,by subst f6;exact r_laws_toWriteS A hA i9 (fun k h=>hk k (by simp only[zsDisk,List.mem_append];simp only[h,true_or,or_true]))⟩
 have m8:=rlen_map hA g3
 refine cvw hc4 (.inr rfl) ?_
 refine rz hA 2 ?_
 refine gx hA 2 ?_
 refine rt (gt ?_)
 show _=(PV.agg [.ow 1 k4,.ow 2 e2])
 subst m0 g3
 rfl
theorem r_laws_toRec (A:Alg)(hA:A=std)(x:GRec)(hk:∀ k∈zsRec x,k≤1048576):Real Tryz.prog 144 [.agg (eRec x)] (.agg (eoRec x)):=by
 obtain⟨k8,k0,m1,k9,k3,l0,l2,g4⟩:=x
 refine real_args (args':=[.agg [.ii k8,.ii k0,.ii m1,.ii k9,.ii k3,.str l0,.str l2,.str g4]]) (by rfl) ?_
 refine real tyOk Tryz.func144 (by kernel_rfl) (afun_of rfl ?_)
 refine gx hA 2 ?_
 refine gx hA 1 ?_
 refine gx hA 4 ?_
 refine gx hA 4 ?_
 refine gx hA 4 ?_
 refine gx hA 4 ?_
 refine gx hA 4 ?_
 refine gx hA 4 ?_
 refine gx hA 4 ?_
 refine gx hA 4 ?_
 refine gx hA 2 ?_
 refine rt (gt ?_)
 show _=(PV.agg [.ii k8,.ii k0,.ii m1,.ii k9,.ii k3,.str l0,.str l2,.str g4])
 rfl
theorem r_laws_toItem (A:Alg)(hA:A=std)(x:GItem)(hk:∀ k∈zsItem x,k≤1048576):Real Tryz.prog 124 [.agg (eItem x)] (.agg (eoItem x)):=by
 obtain⟨l6,⟨c6,c2,d9,d3,c0,d4,c7,c8⟩⟩:=x
 refine real_args (args':=[.agg [.ii l6,.ii c6,.ii c2,.ii d9,.ii d3,.ii c0,.str d4,.str c7,.str c8]]) (by rfl) ?_
 refine real tyOk Tryz.func124 (by kernel_rfl) (afun_of rfl ?_)
 refine gx hA 2 ?_
 refine gx hA 1 ?_
 refine gx hA 4 ?_
 refine gs (gr (rn hA 2 ?_))
 have hc2:Real Tryz.prog 144 [.agg [.ii c6,.ii c2,.ii d9,.ii d3,.ii c0,.str d4,.str c7,.str c8]] (.agg [.ii c6,.ii c2,.ii d9,.ii d3,.ii c0,.str d4,.str c7,.str c8]):=by exact r_laws_toRec A hA (⟨c6,c2,d9,d3,c0,d4,c7,c8⟩:GRec) (fun k h=>hk k (by simp only[zsItem,List.mem_append];simp only[h,true_or,or_true]))
 refine cvw hc2 (.inr rfl) ?_
 refine rz hA 2 ?_
 refine gx hA 2 ?_
 refine rt (gt ?_)
 show _=(PV.agg [.ii l6,.ii c6,.ii c2,.ii d9,.ii d3,.ii c0,.str d4,.str c7,.str c8])
 rfl
def S89_1 (p0:RR)(p1:Int)(p2:RR):St:={sl:=[.sl 9 p0,.bad,.bad,.own 7,.ii p1,.bad,.bad,.bad,.bad,.bad,.bad,.bad,.bad,.bad,.bad,.bad,.bad,.bad,.bad,.bad,.bad,.bad,.bad],bl:=[(7,⟨.arr,9,p2⟩)]}
theorem r_laws_toItemS (A:Alg)(hA:A=std)(xs:List GItem)(hk:∀ k∈zsItemS xs,k≤1048576):Real Tryz.prog 89 [.sl 9 (List.map eItem xs)] (.ow 9 (List.map eoItem xs)):=by
 obtain⟨a0,a2⟩:=nm (xs.map eItem)
 have e1:=rlen_map hA a2
 refine real_args (args':=[.sl 9 a0]) (by subst a2;rfl) ?_
 have hlen:List.length xs≤1048576:=hk _ (by simp[zsItemS])
 refine real tyOk Tryz.func89 (by kernel_rfl) (afun_of rfl ?_)
 refine gx hA 1 ?_
 refine gs (gr (rn hA 2 ?_))
 obtain⟨rm,hrm⟩:=nm (List.replicate (Int.toNat (A.rlen a0)) [.ii 0,.ii 0,.ii 0,.ii 0,.ii 0,.ii 0,.str ByteArray.empty,.str ByteArray.empty,.str ByteArray.empty]:RR)
 have hn0:(0:Int)≤A.rlen a0:=by omega
 have hmax:A.rlen a0 * 96≤140737488355328:=by omega
 refine ops_step rfl rfl (mk_arr rfl rfl rfl rfl rfl rfl hn0 hmax (by decide) (by decide) rfl hrm) ?_
 refine rz hA 1 ?_
 refine gs (gx hA 1 ?_)
 refine go_block ?_
 refine go_loopE (fun σ m=>∃(i:Nat) (ro:RR) (n4:Int),σ=(S89_1 a0 n4 ro)∧(n4=(i:Int)∧i≤List.length xs∧ro=fill eoItem [.ii 0,.ii 0,.ii 0,.ii 0,.ii 0,.ii 0,.str ByteArray.empty,.str ByteArray.empty,.str ByteArray.empty] xs i)∧m=List.length xs - i) _ [] [0,3,4] [7] (S89_1 a0 0 rm) rfl (by cbv) ⟨0,rm,0,rfl,?_,rfl⟩ (fun σ m hI=> ?_)
 ·
  exact⟨rfl,Nat.zero_le _,by rw[hrm,fill_zero,e1];rfl⟩
 obtain⟨i,ro,n4,rfl,⟨hn4,hi,hro⟩,rfl⟩:=hI
 refine gs (gx hA 4 ?_)
 refine gc (fun c1=> ?_) (fun c1=> ?_)
 ·
  have ec1:n4 < (A.rlen a0):=lss_t hA c1
  refine gk (gs ?_)
  refine go_block ?_
  refine gr (rn hA 4 ?_)
  have f7:(0:Int)≤n4:=by
   omega
  have f5:(Int.toNat n4) < List.length xs:=by
   omega
  obtain⟨x2,hx2⟩:∃ x,(xs)[(Int.toNat n4)]? =some x:=⟨_,List.getElem?_eq_getElem f5⟩
  have i5:=List.mem_of_getElem? hx2
  obtain⟨f4,⟨b1,a6,b8,b2,a7,b4,b0,b3⟩⟩:=x2
  have g1:a0[(Int.toNat n4)]? =some [.ii f4,.ii b1,.ii a6,.ii b8,.ii b2,.ii a7,.str b4,.str b0,.str b3]:=by
   exact map_at eItem a2 hx2
  have hkx:=fun(k:Nat) h=>hk k (List.mem_cons_of_mem _ (List.mem_flatMap.2 ⟨_,i5,h⟩))
  refine ops_step rfl rfl (idx_sl rfl rfl rfl rfl rfl f7 rfl g1) ?_
  refine rn hA 1 ?_
  have hc4:Real Tryz.prog 124 [.agg [.ii f4,.ii b1,.ii a6,.ii b8,.ii b2,.ii a7,.str b4,.str b0,.str b3]] (.agg [.ii f4,.ii b1,.ii a6,.ii b8,.ii b2,.ii a7,.str b4,.str b0,.str b3]):=by exact r_laws_toItem A hA (⟨f4,⟨b1,a6,b8,b2,a7,b4,b0,b3⟩⟩:GItem) hkx
  refine cvw hc4 (.inr rfl) ?_
  have hlo:n4 < (List.length ro:Int):=by
   rw[hro,fill_len _ _ _ hi];omega
  refine ops_step rfl rfl (idx_own rfl rfl rfl rfl rfl rfl (by omega) hlo rfl) ?_
  have a1:=hx2
  rw[hn4] at a1
  have a1:xs[i]? =some _:=a1
  have hz:ro[Int.toNat n4]? =some [.ii 0,.ii 0,.ii 0,.ii 0,.ii 0,.ii 0,.str ByteArray.empty,.str ByteArray.empty,.str ByteArray.empty]:=by
   rw[hro,hn4];exact fill_at _ _ _ (by omega)
  have hset:fill eoItem [.ii 0,.ii 0,.ii 0,.ii 0,.ii 0,.ii 0,.str ByteArray.empty,.str ByteArray.empty,.str ByteArray.empty] xs (i+1)=ro.set (Int.toNat n4) [.ii f4,.ii b1,.ii a6,.ii b8,.ii b2,.ii a7,.str b4,.str b0,.str b3]:=by
   rw[hro,hn4];exact(fill_set eoItem _ xs a1).symm
  obtain⟨ro2,d0⟩:∃ r,r=fill eoItem [.ii 0,.ii 0,.ii 0,.ii 0,.ii 0,.ii 0,.str ByteArray.empty,.str ByteArray.empty,.str ByteArray.empty] xs (i+1):=⟨_,rfl⟩
  rw[← d0] at hset
  refine ops_step rfl rfl (sto_arr (r:=[.ii 0,.ii 0,.ii 0,.ii 0,.ii 0,.ii 0,.str ByteArray.empty,.str ByteArray.empty,.str ByteArray.empty]) (cs:=[.ii f4,.ii b1,.ii a6,.ii b8,.ii b2,.ii a7,.str b4,.str b0,.str b3]) rfl rfl rfl rfl rfl ⟨_,_,rfl⟩ rfl rfl hz rfl hset) ?_
  refine od ?_
  refine gy hA 3 ?_
  refine⟨(S89_1 a0 (A.num .add .i64 n4 1) ro2),List.length xs - (i+1),?_,by cbv,i+1,ro2,(A.num .add .i64 n4 1),rfl,?_,rfl⟩
  ·
   omega
  exact⟨by rw[add_i64 hA (by omega) (by omega)];omega,by omega,d0⟩
 have ec1:(A.rlen a0)≤n4:=lss_f hA c1
 refine go_exit ⟨fun _=> ?_,fun h=>absurd rfl h⟩
 refine gx hA 2 ?_
 refine rt (gt ?_)
 refine congrArg (PV.ow 9) ?_
 rw[hro,fill_all _ _ _ (by omega)]
theorem r_laws_toSeg (A:Alg)(hA:A=std)(x:GSeg)(hk:∀ k∈zsSeg x,k≤1048576):Real Tryz.prog 62 [.agg (eSeg x)] (.agg (eoSeg x)):=by
 obtain⟨m4,l9,l8,j0⟩:=x
 obtain⟨j2,f9⟩:=nm (j0.map eItem)
 have n5:=rlen_map hA f9
 refine real_args (args':=[.agg [.ii m4,.ii l9,.ii l8,.sl 9 j2]]) (by subst f9;rfl) ?_
 refine real tyOk Tryz.func62 (by kernel_rfl) (afun_of rfl ?_)
 refine gx hA 2 ?_
 refine gx hA 1 ?_
 refine gx hA 4 ?_
 refine gx hA 4 ?_
 refine gx hA 4 ?_
 refine gs (gr (rn hA 2 ?_))
 obtain⟨j7,k7,hc2⟩:∃(j7:RR),j7=List.map eoItem j0∧Real Tryz.prog 89 [.sl 9 j2] (.ow 9 j7):=⟨_,rfl,by subst f9;exact r_laws_toItemS A hA j0 (fun k h=>hk k (by simp only[zsSeg,List.mem_append];simp only[h,true_or,or_true]))⟩
 have n8:=rlen_map hA k7
 refine cvw hc2 (.inr rfl) ?_
 refine rz hA 2 ?_
 refine gx hA 2 ?_
 refine rt (gt ?_)
 show _=(PV.agg [.ii m4,.ii l9,.ii l8,.ow 9 j7])
 subst k7
 rfl
def S34_1 (p0:RR)(p1:Int)(p2:RR):St:={sl:=[.sl 4 p0,.bad,.bad,.own 7,.ii p1,.bad,.bad,.bad,.bad,.bad,.bad,.bad,.bad,.bad,.bad,.bad,.bad,.bad,.bad,.bad,.bad,.bad,.bad],bl:=[(7,⟨.arr,4,p2⟩)]}
theorem r_laws_toSegS (A:Alg)(hA:A=std)(xs:List GSeg)(hk:∀ k∈zsSegS xs,k≤1048576):Real Tryz.prog 34 [.sl 4 (List.map eSeg xs)] (.ow 4 (List.map eoSeg xs)):=by
 obtain⟨a0,a2⟩:=nm (xs.map eSeg)
 have e1:=rlen_map hA a2
 refine real_args (args':=[.sl 4 a0]) (by subst a2;rfl) ?_
 have hlen:List.length xs≤1048576:=hk _ (by simp[zsSegS])
 refine real tyOk Tryz.func34 (by kernel_rfl) (afun_of rfl ?_)
 refine gx hA 1 ?_
 refine gs (gr (rn hA 2 ?_))
 obtain⟨rm,hrm⟩:=nm (List.replicate (Int.toNat (A.rlen a0)) [.ii 0,.ii 0,.ii 0,.zc]:RR)
 have hn0:(0:Int)≤A.rlen a0:=by omega
 have hmax:A.rlen a0 * 48≤140737488355328:=by omega
 refine ops_step rfl rfl (mk_arr rfl rfl rfl rfl rfl rfl hn0 hmax (by decide) (by decide) rfl hrm) ?_
 refine rz hA 1 ?_
 refine gs (gx hA 1 ?_)
 refine go_block ?_
 refine go_loopE (fun σ m=>∃(i:Nat) (ro:RR) (n4:Int),σ=(S34_1 a0 n4 ro)∧(n4=(i:Int)∧i≤List.length xs∧ro=fill eoSeg [.ii 0,.ii 0,.ii 0,.zc] xs i)∧m=List.length xs - i) _ [] [0,3,4] [7] (S34_1 a0 0 rm) rfl (by cbv) ⟨0,rm,0,rfl,?_,rfl⟩ (fun σ m hI=> ?_)
 ·
  exact⟨rfl,Nat.zero_le _,by rw[hrm,fill_zero,e1];rfl⟩
 obtain⟨i,ro,n4,rfl,⟨hn4,hi,hro⟩,rfl⟩:=hI
 refine gs (gx hA 4 ?_)
 refine gc (fun c1=> ?_) (fun c1=> ?_)
 ·
  have ec1:n4 < (A.rlen a0):=lss_t hA c1
  refine gk (gs ?_)
  refine go_block ?_
  refine gr (rn hA 4 ?_)
  have f7:(0:Int)≤n4:=by
   omega
  have f5:(Int.toNat n4) < List.length xs:=by
   omega
  obtain⟨x2,hx2⟩:∃ x,(xs)[(Int.toNat n4)]? =some x:=⟨_,List.getElem?_eq_getElem f5⟩
  have i5:=List.mem_of_getElem? hx2
  obtain⟨g9,f1,f2,i4⟩:=x2
  obtain⟨i7,f0⟩:=nm (i4.map eItem)
  have m9:=rlen_map hA f0
  have g1:a0[(Int.toNat n4)]? =some [.ii g9,.ii f1,.ii f2,.sl 9 i7]:=by
   subst f0;exact map_at eSeg a2 hx2
  have hkx:=fun(k:Nat) h=>hk k (List.mem_cons_of_mem _ (List.mem_flatMap.2 ⟨_,i5,h⟩))
  refine ops_step rfl rfl (idx_sl rfl rfl rfl rfl rfl f7 rfl g1) ?_
  refine rn hA 1 ?_
  obtain⟨c3,g7,hc4⟩:∃(c3:RR),c3=List.map eoItem i4∧Real Tryz.prog 62 [.agg [.ii g9,.ii f1,.ii f2,.sl 9 i7]] (.agg [.ii g9,.ii f1,.ii f2,.ow 9 c3]):=⟨_,rfl,by subst f0;exact r_laws_toSeg A hA (⟨g9,f1,f2,i4⟩:GSeg) hkx⟩
  have m7:=rlen_map hA g7
  refine cvw hc4 (.inr rfl) ?_
  have hlo:n4 < (List.length ro:Int):=by
   rw[hro,fill_len _ _ _ hi];omega
  refine ops_step rfl rfl (idx_own rfl rfl rfl rfl rfl rfl (by omega) hlo rfl) ?_
  have a1:=hx2
  rw[hn4] at a1
  have a1:xs[i]? =some _:=a1
  have hz:ro[Int.toNat n4]? =some [.ii 0,.ii 0,.ii 0,.zc]:=by
   rw[hro,hn4];exact fill_at _ _ _ (by omega)
  have hset:fill eoSeg [.ii 0,.ii 0,.ii 0,.zc] xs (i+1)=ro.set (Int.toNat n4) [.ii g9,.ii f1,.ii f2,.ow 9 c3]:=by
   rw[hro,hn4];subst g7;exact(fill_set eoSeg _ xs a1).symm
  obtain⟨ro2,d0⟩:∃ r,r=fill eoSeg [.ii 0,.ii 0,.ii 0,.zc] xs (i+1):=⟨_,rfl⟩
  rw[← d0] at hset
  refine ops_step rfl rfl (sto_arr (r:=[.ii 0,.ii 0,.ii 0,.zc]) (cs:=[.ii g9,.ii f1,.ii f2,.ow 9 c3]) rfl rfl rfl rfl rfl ⟨_,_,rfl⟩ rfl rfl hz rfl hset) ?_
  refine od ?_
  refine gy hA 3 ?_
  refine⟨(S34_1 a0 (A.num .add .i64 n4 1) ro2),List.length xs - (i+1),?_,by cbv,i+1,ro2,(A.num .add .i64 n4 1),rfl,?_,rfl⟩
  ·
   omega
  exact⟨by rw[add_i64 hA (by omega) (by omega)];omega,by omega,d0⟩
 have ec1:(A.rlen a0)≤n4:=lss_f hA c1
 refine go_exit ⟨fun _=> ?_,fun h=>absurd rfl h⟩
 refine gx hA 2 ?_
 refine rt (gt ?_)
 refine congrArg (PV.ow 4) ?_
 rw[hro,fill_all _ _ _ (by omega)]
theorem r_laws_toLog (A:Alg)(hA:A=std)(x:GLog)(hk:∀ k∈zsLog x,k≤1048576):Real Tryz.prog 16 [.agg (eLog x)] (.agg (eoLog x)):=by
 obtain⟨⟨d6,e5⟩,k6,j9,j3,j5,k2,i2⟩:=x
 obtain⟨e8,b9⟩:=nm (d6.map eString)
 have l4:=rlen_map hA b9
 obtain⟨f3,d5⟩:=nm (e5.map eWrite)
 have l7:=rlen_map hA d5
 obtain⟨j8,g6⟩:=nm (j9.map eSeg)
 have n6:=rlen_map hA g6
 refine real_args (args':=[.agg [.sl 1 e8,.sl 2 f3,.ii k6,.sl 4 j8,.ii j3,.ii j5,.ii k2,.ii i2]]) (by subst b9 d5 g6;rfl) ?_
 refine real tyOk Tryz.func16 (by kernel_rfl) (afun_of rfl ?_)
 refine gx hA 2 ?_
 refine gx hA 1 ?_
 refine gs (gr (rn hA 2 ?_))
 obtain⟨d1,e3,g2,i1,hc2⟩:∃(d1:RR) (e3:RR),d1=List.map eString d6∧e3=List.map eoWrite e5∧Real Tryz.prog 33 [.agg [.sl 1 e8,.sl 2 f3]] (.agg [.ow 1 d1,.ow 2 e3]):=⟨_,_,rfl,rfl,by subst b9 d5;exact r_laws_toDisk A hA (⟨d6,e5⟩:GDisk) (fun k h=>hk k (by simp only[zsLog,List.mem_append];simp only[h,true_or,or_true]))⟩
 have m2:=rlen_map hA g2
 have n0:=rlen_map hA i1
 refine cvw hc2 (.inr rfl) ?_
 refine rz hA 2 ?_
 refine gx hA 4 ?_
 refine gs (gr (rn hA 2 ?_))
 obtain⟨j6,l3,hc4⟩:∃(j6:RR),j6=List.map eoSeg j9∧Real Tryz.prog 34 [.sl 4 j8] (.ow 4 j6):=⟨_,rfl,by subst g6;exact r_laws_toSegS A hA j9 (fun k h=>hk k (by simp only[zsLog,List.mem_append];simp only[h,true_or,or_true]))⟩
 have n7:=rlen_map hA l3
 refine cvw hc4 (.inr rfl) ?_
 refine rz hA 2 ?_
 refine gx hA 4 ?_
 refine gx hA 4 ?_
 refine gx hA 4 ?_
 refine gx hA 4 ?_
 refine gx hA 2 ?_
 refine rt (gt ?_)
 show _=(PV.agg [.ow 1 d1,.ow 2 e3,.ii k6,.ow 4 j6,.ii j3,.ii j5,.ii k2,.ii i2])
 subst g2 i1 l3
 rfl
def S17_1 (p0:RR)(p1:Int)(p2:RR):St:={sl:=[.sl 1 p0,.bad,.bad,.own 7,.ii p1,.bad,.bad,.bad,.bad,.bad,.bad,.bad,.bad,.bad,.bad,.bad,.bad,.bad,.bad,.bad,.bad,.bad],bl:=[(7,⟨.arr,1,p2⟩)]}
theorem r_laws_toIntS (A:Alg)(hA:A=std)(xs:List Int)(hk:∀ k∈zsIntS xs,k≤1048576):Real Tryz.prog 17 [.sl 1 (List.map eInt xs)] (.ow 1 (List.map eInt xs)):=by
 obtain⟨a0,a2⟩:=nm (xs.map eInt)
 have e1:=rlen_map hA a2
 refine real_args (args':=[.sl 1 a0]) (by subst a2;rfl) ?_
 have hlen:List.length xs≤1048576:=hk _ (by simp[zsIntS])
 refine real tyOk Tryz.func17 (by kernel_rfl) (afun_of rfl ?_)
 refine gx hA 1 ?_
 refine gs (gr (rn hA 2 ?_))
 obtain⟨rm,hrm⟩:=nm (List.replicate (Int.toNat (A.rlen a0)) [.ii 0]:RR)
 have hn0:(0:Int)≤A.rlen a0:=by omega
 have hmax:A.rlen a0 * 8≤140737488355328:=by omega
 refine ops_step rfl rfl (mk_arr rfl rfl rfl rfl rfl rfl hn0 hmax (by decide) (by decide) rfl hrm) ?_
 refine rz hA 1 ?_
 refine gs (gx hA 1 ?_)
 refine go_block ?_
 refine go_loopE (fun σ m=>∃(i:Nat) (ro:RR) (n4:Int),σ=(S17_1 a0 n4 ro)∧(n4=(i:Int)∧i≤List.length xs∧ro=fill eInt [.ii 0] xs i)∧m=List.length xs - i) _ [] [0,3,4] [7] (S17_1 a0 0 rm) rfl (by cbv) ⟨0,rm,0,rfl,?_,rfl⟩ (fun σ m hI=> ?_)
 ·
  exact⟨rfl,Nat.zero_le _,by rw[hrm,fill_zero,e1];rfl⟩
 obtain⟨i,ro,n4,rfl,⟨hn4,hi,hro⟩,rfl⟩:=hI
 refine gs (gx hA 4 ?_)
 refine gc (fun c1=> ?_) (fun c1=> ?_)
 ·
  have ec1:n4 < (A.rlen a0):=lss_t hA c1
  refine gk (gs ?_)
  refine go_block ?_
  refine gr (rn hA 4 ?_)
  have f7:(0:Int)≤n4:=by
   omega
  have f5:(Int.toNat n4) < List.length xs:=by
   omega
  obtain⟨x2,hx2⟩:∃ x,(xs)[(Int.toNat n4)]? =some x:=⟨_,List.getElem?_eq_getElem f5⟩
  have i5:=List.mem_of_getElem? hx2
  have g1:a0[(Int.toNat n4)]? =some [.ii x2]:=by
   exact map_at eInt a2 hx2
  refine ops_step rfl rfl (idx_sl rfl rfl rfl rfl rfl f7 rfl g1) ?_
  refine rn hA 1 ?_
  have hlo:n4 < (List.length ro:Int):=by
   rw[hro,fill_len _ _ _ hi];omega
  refine ops_step rfl rfl (idx_own rfl rfl rfl rfl rfl rfl (by omega) hlo rfl) ?_
  have a1:=hx2
  rw[hn4] at a1
  have a1:xs[i]? =some _:=a1
  have hz:ro[Int.toNat n4]? =some [.ii 0]:=by
   rw[hro,hn4];exact fill_at _ _ _ (by omega)
  have hset:fill eInt [.ii 0] xs (i+1)=ro.set (Int.toNat n4) [.ii x2]:=by
   rw[hro,hn4];exact(fill_set eInt _ xs a1).symm
  obtain⟨ro2,d0⟩:∃ r,r=fill eInt [.ii 0] xs (i+1):=⟨_,rfl⟩
  rw[← d0] at hset
  refine ops_step rfl rfl (sto_arr (r:=[.ii 0]) (cs:=[.ii x2]) rfl rfl rfl rfl rfl ⟨_,_,rfl⟩ rfl rfl hz rfl hset) ?_
  refine od ?_
  refine gy hA 3 ?_
  refine⟨(S17_1 a0 (A.num .add .i64 n4 1) ro2),List.length xs - (i+1),?_,by cbv,i+1,ro2,(A.num .add .i64 n4 1),rfl,?_,rfl⟩
  ·
   omega
  exact⟨by rw[add_i64 hA (by omega) (by omega)];omega,by omega,d0⟩
 have ec1:(A.rlen a0)≤n4:=lss_f hA c1
 refine go_exit ⟨fun _=> ?_,fun h=>absurd rfl h⟩
 refine gx hA 2 ?_
 refine rt (gt ?_)
 refine congrArg (PV.ow 1) ?_
 rw[hro,fill_all _ _ _ (by omega)]
theorem r_laws_toStore (A:Alg)(hA:A=std)(x:GStore)(hk:∀ k∈zsStore x,k≤1048576):Real Tryz.prog 6 [.agg (eStore x)] (.agg (eoStore x)):=by
 obtain⟨⟨⟨b7,c5⟩,c9,g0,a8,a9,c4,a3⟩,i8⟩:=x
 obtain⟨d2,a5⟩:=nm (b7.map eString)
 have k1:=rlen_map hA a5
 obtain⟨d8,b5⟩:=nm (c5.map eWrite)
 have k5:=rlen_map hA b5
 obtain⟨g8,e0⟩:=nm (g0.map eSeg)
 have m3:=rlen_map hA e0
 obtain⟨j4,f8⟩:=nm (i8.map eInt)
 have n2:=rlen_map hA f8
 refine real_args (args':=[.agg [.sl 1 d2,.sl 2 d8,.ii c9,.sl 4 g8,.ii a8,.ii a9,.ii c4,.ii a3,.sl 1 j4]]) (by subst a5 b5 e0 f8;rfl) ?_
 refine real tyOk Tryz.func6 (by kernel_rfl) (afun_of rfl ?_)
 refine gx hA 2 ?_
 refine gx hA 1 ?_
 refine gs (gr (rn hA 2 ?_))
 obtain⟨a4,b6,e9,d7,e7,i6,hc2⟩:∃(a4:RR) (b6:RR) (e9:RR),a4=List.map eString b7∧b6=List.map eoWrite c5∧e9=List.map eoSeg g0∧Real Tryz.prog 16 [.agg [.sl 1 d2,.sl 2 d8,.ii c9,.sl 4 g8,.ii a8,.ii a9,.ii c4,.ii a3]] (.agg [.ow 1 a4,.ow 2 b6,.ii c9,.ow 4 e9,.ii a8,.ii a9,.ii c4,.ii a3]):=⟨_,_,_,rfl,rfl,rfl,by subst a5 b5 e0;exact r_laws_toLog A hA (⟨⟨b7,c5⟩,c9,g0,a8,a9,c4,a3⟩:GLog) (fun k h=>hk k (by simp only[zsStore,List.mem_append];simp only[h,true_or,or_true]))⟩
 have l1:=rlen_map hA d7
 have l5:=rlen_map hA e7
 have n1:=rlen_map hA i6
 refine cvw hc2 (.inr rfl) ?_
 refine rz hA 2 ?_
 refine gs (gr (rn hA 2 ?_))
 obtain⟨e2,g3,hc4⟩:∃(e2:RR),e2=List.map eInt i8∧Real Tryz.prog 17 [.sl 1 j4] (.ow 1 e2):=⟨_,rfl,by subst f8;exact r_laws_toIntS A hA i8 (fun k h=>hk k (by simp only[zsStore,List.mem_append];simp only[h,true_or,or_true]))⟩
 have m8:=rlen_map hA g3
 refine cvw hc4 (.inr rfl) ?_
 refine rz hA 2 ?_
 refine gx hA 2 ?_
 refine rt (gt ?_)
 show _=(PV.agg [.ow 1 a4,.ow 2 b6,.ii c9,.ow 4 e9,.ii a8,.ii a9,.ii c4,.ii a3,.ow 1 e2])
 subst d7 e7 i6 g3
 rfl
end Go.Av
