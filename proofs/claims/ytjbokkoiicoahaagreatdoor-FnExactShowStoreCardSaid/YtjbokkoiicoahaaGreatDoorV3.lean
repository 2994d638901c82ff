/- Walks: eq of stores. -/
import Derived.Test.YtjbokkoiicoahaaGreatDoorTy
namespace Go.Av
open Go Go.Proofs
set_option maxRecDepth 100000
set_option maxHeartbeats 4000000
set_option linter.unusedVariables false
set_option linter.unusedSimpArgs false
def S77_1 (p0:RR)(p1:Int):St:={sl:=[.sl 1 p0,.sl 1 p0,.bad,.bad,.bad,.ii p1,.bad,.bad,.bad,.bad,.bad,.bad,.bad,.bad,.bad,.bad,.bad,.bad,.bad,.bad,.bad,.bad,.bad,.bad,.bad,.bad],bl:=[]}
theorem r_laws_eqStringS (A:Alg)(hA:A=std)(xs:List ByteArray)(hk:∀ k∈zsStringS xs,(k:Int)≤4611686018427387904):Real Tryz.prog 77 [.sl 1 (List.map eString xs),.sl 1 (List.map eString xs)] (.bool true):=by
 obtain⟨a0,a1⟩:=nm (xs.map eString)
 have j3:=rlen_map hA a1
 refine real_args (args':=[.sl 1 a0,.sl 1 a0]) (by subst a1;rfl) ?_
 have hlen:(List.length xs:Int)≤4611686018427387904:=hk _ (by simp[zsStringS])
 refine real tyOk Tryz.func77 (by kernel_rfl) (afun_of rfl ?_)
 refine gx hA 1 ?_
 refine gs (gx hA 5 ?_)
 refine gc (fun c1=> ?_) (fun c1=> ?_)
 ·
  exact no_t c1 (show(A.cmp .neq (A.rlen a0) (A.rlen a0))=false from by subst hA;simp[std])
 refine gk (gs (gx hA 1 ?_))
 refine go_block ?_
 refine go_loopE (fun σ m=>∃(i:Nat) (n5:Int),σ=(S77_1 a0 n5)∧(n5=(i:Int)∧i≤List.length xs)∧m=List.length xs - i) _ [] [0,1,5] [] (S77_1 a0 0) rfl (by cbv) ⟨0,0,rfl,?_,rfl⟩ (fun σ m hI=> ?_)
 ·
  exact⟨rfl,Nat.zero_le _⟩
 obtain⟨i,n5,rfl,⟨hn5,hi⟩,rfl⟩:=hI
 refine gs (gx hA 4 ?_)
 refine gc (fun c2=> ?_) (fun c2=> ?_)
 ·
  have ec2:n5 < (A.rlen a0):=lss_t hA c2
  refine gk (gs ?_)
  refine go_block ?_
  refine gs ?_
  refine go_draw [0,1,2,3,4,5,6,7,8] (by cbv) ?_
  refine dn_ hA 2 ?_
  have b9:(0:Int)≤n5:=by
   omega
  have f7:(Int.toNat n5) < List.length xs:=by
   omega
  obtain⟨x3,hx3⟩:∃ x,(xs)[(Int.toNat n5)]? =some x:=⟨_,List.getElem?_eq_getElem f7⟩
  have g9:=List.mem_of_getElem? hx3
  have b7:a0[(Int.toNat n5)]? =some [.str x3]:=by
   exact map_at eString a1 hx3
  refine dops_step rfl rfl rfl (idx_sl rfl rfl rfl rfl rfl b9 rfl b7) ?_
  refine dn_ hA 3 ?_
  refine dops_step rfl rfl rfl (idx_sl rfl rfl rfl rfl rfl b9 rfl b7) ?_
  refine dz hA 2 ?_
  refine gc (fun c4=> ?_) (fun c4=> ?_)
  ·
   exact no_t c4 (show(A.scmp .neq x3 x3)=false from by subst hA;simp[std])
  refine gk (gy hA 3 ?_)
  refine⟨(S77_1 a0 (A.num .add .i64 n5 1)),List.length xs - (i+1),?_,by cbv,i+1,(A.num .add .i64 n5 1),rfl,?_,rfl⟩
  ·
   omega
  exact⟨by rw[add_i64 hA (by omega) (by omega)];omega,by omega⟩
 have ec2:(A.rlen a0)≤n5:=lss_f hA c2
 refine go_exit ⟨fun _=> ?_,fun h=>absurd rfl h⟩
 refine gx hA 1 ?_
 refine rt (gt ?_)
 show _=(PV.bool true)
 rfl
theorem r_laws_eqWrite (A:Alg)(hA:A=std)(x:GWrite)(hk:∀ k∈zsWrite x,(k:Int)≤4611686018427387904):Real Tryz.prog 114 [.agg (eWrite x),.agg (eWrite x)] (.bool true):=by
 obtain⟨k3,c0⟩:=x
 refine real_args (args':=[.agg [.ii k3,.str c0],.agg [.ii k3,.str c0]]) (by rfl) ?_
 refine real tyOk Tryz.func114 (by kernel_rfl) (afun_of rfl ?_)
 refine gx hA 3 ?_
 refine gs (gx hA 5 ?_)
 refine gc (fun c1=> ?_) (fun c1=> ?_)
 ·
  exact no_t c1 (show(A.cmp .neq k3 k3)=false from by subst hA;simp[std])
 refine gk (gs (gx hA 5 ?_))
 refine gc (fun c2=> ?_) (fun c2=> ?_)
 ·
  exact no_t c2 (show(A.scmp .neq c0 c0)=false from by subst hA;simp[std])
 refine gk (gx hA 1 ?_)
 refine rt (gt ?_)
 show _=(PV.bool true)
 rfl
def S78_1 (p0:RR)(p1:Int):St:={sl:=[.sl 2 p0,.sl 2 p0,.bad,.bad,.bad,.ii p1,.bad,.bad,.bad,.bad,.bad,.bad,.bad,.bad,.bad,.bad,.bad,.bad,.bad,.bad,.bad,.bad,.bad,.bad,.bad,.bad,.bad],bl:=[]}
theorem r_laws_eqWriteS (A:Alg)(hA:A=std)(xs:List GWrite)(hk:∀ k∈zsWriteS xs,(k:Int)≤4611686018427387904):Real Tryz.prog 78 [.sl 2 (List.map eWrite xs),.sl 2 (List.map eWrite xs)] (.bool true):=by
 obtain⟨a0,a1⟩:=nm (xs.map eWrite)
 have j3:=rlen_map hA a1
 refine real_args (args':=[.sl 2 a0,.sl 2 a0]) (by subst a1;rfl) ?_
 have hlen:(List.length xs:Int)≤4611686018427387904:=hk _ (by simp[zsWriteS])
 refine real tyOk Tryz.func78 (by kernel_rfl) (afun_of rfl ?_)
 refine gx hA 1 ?_
 refine gs (gx hA 5 ?_)
 refine gc (fun c1=> ?_) (fun c1=> ?_)
 ·
  exact no_t c1 (show(A.cmp .neq (A.rlen a0) (A.rlen a0))=false from by subst hA;simp[std])
 refine gk (gs (gx hA 1 ?_))
 refine go_block ?_
 refine go_loopE (fun σ m=>∃(i:Nat) (n5:Int),σ=(S78_1 a0 n5)∧(n5=(i:Int)∧i≤List.length xs)∧m=List.length xs - i) _ [] [0,1,5] [] (S78_1 a0 0) rfl (by cbv) ⟨0,0,rfl,?_,rfl⟩ (fun σ m hI=> ?_)
 ·
  exact⟨rfl,Nat.zero_le _⟩
 obtain⟨i,n5,rfl,⟨hn5,hi⟩,rfl⟩:=hI
 refine gs (gx hA 4 ?_)
 refine gc (fun c2=> ?_) (fun c2=> ?_)
 ·
  have ec2:n5 < (A.rlen a0):=lss_t hA c2
  refine gk (gs ?_)
  refine go_block ?_
  refine gs ?_
  refine go_draw [0,1,2,3,4,5,6,7,8,9] (by cbv) ?_
  refine dn_ hA 2 ?_
  have b9:(0:Int)≤n5:=by
   omega
  have f7:(Int.toNat n5) < List.length xs:=by
   omega
  obtain⟨x3,hx3⟩:∃ x,(xs)[(Int.toNat n5)]? =some x:=⟨_,List.getElem?_eq_getElem f7⟩
  have g9:=List.mem_of_getElem? hx3
  obtain⟨j4,g7⟩:=x3
  have b7:a0[(Int.toNat n5)]? =some [.ii j4,.str g7]:=by
   exact map_at eWrite a1 hx3
  have hkx:=fun(k:Nat) h=>hk k (List.mem_cons_of_mem _ (List.mem_flatMap.2 ⟨_,g9,h⟩))
  refine dops_step rfl rfl rfl (idx_sl rfl rfl rfl rfl rfl b9 rfl b7) ?_
  refine dn_ hA 3 ?_
  refine dops_step rfl rfl rfl (idx_sl rfl rfl rfl rfl rfl b9 rfl b7) ?_
  refine dn_ hA 1 ?_
  have hc5:Real Tryz.prog 114 [.agg [.ii j4,.str g7],.agg [.ii j4,.str g7]] (.bool true):=by exact r_laws_eqWrite A hA (⟨j4,g7⟩:GWrite) hkx
  refine dops_callV rfl rfl (by cbv) (by cbv) hc5 (.inr rfl) ?_
  refine dz hA 1 ?_
  refine gc (fun c6=> ?_) (fun c6=> ?_)
  ·
   exact no_t c6 (show(A.bnot true)=false from by subst hA;rfl)
  refine gk (gy hA 3 ?_)
  refine⟨(S78_1 a0 (A.num .add .i64 n5 1)),List.length xs - (i+1),?_,by cbv,i+1,(A.num .add .i64 n5 1),rfl,?_,rfl⟩
  ·
   omega
  exact⟨by rw[add_i64 hA (by omega) (by omega)];omega,by omega⟩
 have ec2:(A.rlen a0)≤n5:=lss_f hA c2
 refine go_exit ⟨fun _=> ?_,fun h=>absurd rfl h⟩
 refine gx hA 1 ?_
 refine rt (gt ?_)
 show _=(PV.bool true)
 rfl
theorem r_laws_eqDisk (A:Alg)(hA:A=std)(x:GDisk)(hk:∀ k∈zsDisk x,(k:Int)≤4611686018427387904):Real Tryz.prog 44 [.agg (eDisk x),.agg (eDisk x)] (.bool true):=by
 obtain⟨i9,k0⟩:=x
 obtain⟨e2,e8⟩:=nm (i9.map eString)
 have k9:=rlen_map hA e8
 obtain⟨f1,f9⟩:=nm (k0.map eWrite)
 have l2:=rlen_map hA f9
 refine real_args (args':=[.agg [.sl 1 e2,.sl 2 f1],.agg [.sl 1 e2,.sl 2 f1]]) (by subst e8 f9;rfl) ?_
 refine real tyOk Tryz.func44 (by kernel_rfl) (afun_of rfl ?_)
 refine gx hA 3 ?_
 refine gs (gs (gr (rn hA 4 ?_)))
 have hc2:Real Tryz.prog 77 [.sl 1 e2,.sl 1 e2] (.bool true):=by subst e8;exact r_laws_eqStringS A hA i9 (fun k h=>hk k (by simp only[zsDisk,List.mem_append];simp only[h,true_or,or_true]))
 refine cvw hc2 (.inr rfl) ?_
 refine rz hA 1 ?_
 refine gc (fun c3=> ?_) (fun c3=> ?_)
 ·
  exact no_t c3 (show(A.bnot true)=false from by subst hA;rfl)
 refine gk (gs (gs (gr (rn hA 4 ?_))))
 have hc5:Real Tryz.prog 78 [.sl 2 f1,.sl 2 f1] (.bool true):=by subst f9;exact r_laws_eqWriteS A hA k0 (fun k h=>hk k (by simp only[zsDisk,List.mem_append];simp only[h,true_or,or_true]))
 refine cvw hc5 (.inr rfl) ?_
 refine rz hA 1 ?_
 refine gc (fun c6=> ?_) (fun c6=> ?_)
 ·
  exact no_t c6 (show(A.bnot true)=false from by subst hA;rfl)
 refine gk (gx hA 1 ?_)
 refine rt (gt ?_)
 show _=(PV.bool true)
 rfl
theorem r_laws_eqRec (A:Alg)(hA:A=std)(x:GRec)(hk:∀ k∈zsRec x,(k:Int)≤4611686018427387904):Real Tryz.prog 165 [.agg (eRec x),.agg (eRec x)] (.bool true):=by
 obtain⟨i5,g5,j5,i7,g8,i0,i2,c0⟩:=x
 refine real_args (args':=[.agg [.ii i5,.ii g5,.ii j5,.ii i7,.ii g8,.str i0,.str i2,.str c0],.agg [.ii i5,.ii g5,.ii j5,.ii i7,.ii g8,.str i0,.str i2,.str c0]]) (by rfl) ?_
 refine real tyOk Tryz.func165 (by kernel_rfl) (afun_of rfl ?_)
 refine gx hA 3 ?_
 refine gs (gx hA 5 ?_)
 refine gc (fun c1=> ?_) (fun c1=> ?_)
 ·
  exact no_t c1 (show(A.cmp .neq i5 i5)=false from by subst hA;simp[std])
 refine gk (gs (gx hA 5 ?_))
 refine gc (fun c2=> ?_) (fun c2=> ?_)
 ·
  exact no_t c2 (show(A.cmp .neq g5 g5)=false from by subst hA;simp[std])
 refine gk (gs (gx hA 5 ?_))
 refine gc (fun c3=> ?_) (fun c3=> ?_)
 ·
  exact no_t c3 (show(A.cmp .neq j5 j5)=false from by subst hA;simp[std])
 refine gk (gs (gx hA 5 ?_))
 refine gc (fun c4=> ?_) (fun c4=> ?_)
 ·
  exact no_t c4 (show(A.cmp .neq i7 i7)=false from by subst hA;simp[std])
 refine gk (gs (gx hA 5 ?_))
 refine gc (fun c5=> ?_) (fun c5=> ?_)
 ·
  exact no_t c5 (show(A.cmp .neq g8 g8)=false from by subst hA;simp[std])
 refine gk (gs (gx hA 5 ?_))
 refine gc (fun c6=> ?_) (fun c6=> ?_)
 ·
  exact no_t c6 (show(A.scmp .neq i0 i0)=false from by subst hA;simp[std])
 refine gk (gs (gx hA 5 ?_))
 refine gc (fun c7=> ?_) (fun c7=> ?_)
 ·
  exact no_t c7 (show(A.scmp .neq i2 i2)=false from by subst hA;simp[std])
 refine gk (gs (gx hA 5 ?_))
 refine gc (fun c8=> ?_) (fun c8=> ?_)
 ·
  exact no_t c8 (show(A.scmp .neq c0 c0)=false from by subst hA;simp[std])
 refine gk (gx hA 1 ?_)
 refine rt (gt ?_)
 show _=(PV.bool true)
 rfl
theorem r_laws_eqItem (A:Alg)(hA:A=std)(x:GItem)(hk:∀ k∈zsItem x,(k:Int)≤4611686018427387904):Real Tryz.prog 140 [.agg (eItem x),.agg (eItem x)] (.bool true):=by
 obtain⟨j0,⟨b6,b3,e4,d2,b2,d3,b8,d4⟩⟩:=x
 refine real_args (args':=[.agg [.ii j0,.ii b6,.ii b3,.ii e4,.ii d2,.ii b2,.str d3,.str b8,.str d4],.agg [.ii j0,.ii b6,.ii b3,.ii e4,.ii d2,.ii b2,.str d3,.str b8,.str d4]]) (by rfl) ?_
 refine real tyOk Tryz.func140 (by kernel_rfl) (afun_of rfl ?_)
 refine gx hA 3 ?_
 refine gs (gx hA 5 ?_)
 refine gc (fun c1=> ?_) (fun c1=> ?_)
 ·
  exact no_t c1 (show(A.cmp .neq j0 j0)=false from by subst hA;simp[std])
 refine gk (gs (gs (gr (rn hA 4 ?_))))
 have hc3:Real Tryz.prog 165 [.agg [.ii b6,.ii b3,.ii e4,.ii d2,.ii b2,.str d3,.str b8,.str d4],.agg [.ii b6,.ii b3,.ii e4,.ii d2,.ii b2,.str d3,.str b8,.str d4]] (.bool true):=by exact r_laws_eqRec A hA (⟨b6,b3,e4,d2,b2,d3,b8,d4⟩:GRec) (fun k h=>hk k (by simp only[zsItem,List.mem_append];simp only[h,true_or,or_true]))
 refine cvw hc3 (.inr rfl) ?_
 refine rz hA 1 ?_
 refine gc (fun c4=> ?_) (fun c4=> ?_)
 ·
  exact no_t c4 (show(A.bnot true)=false from by subst hA;rfl)
 refine gk (gx hA 1 ?_)
 refine rt (gt ?_)
 show _=(PV.bool true)
 rfl
def S115_1 (p0:RR)(p1:Int):St:={sl:=[.sl 9 p0,.sl 9 p0,.bad,.bad,.bad,.ii p1,.bad,.bad,.bad,.bad,.bad,.bad,.bad,.bad,.bad,.bad,.bad,.bad,.bad,.bad,.bad,.bad,.bad,.bad,.bad,.bad,.bad],bl:=[]}
theorem r_laws_eqItemS (A:Alg)(hA:A=std)(xs:List GItem)(hk:∀ k∈zsItemS xs,(k:Int)≤4611686018427387904):Real Tryz.prog 115 [.sl 9 (List.map eItem xs),.sl 9 (List.map eItem xs)] (.bool true):=by
 obtain⟨a0,a1⟩:=nm (xs.map eItem)
 have j3:=rlen_map hA a1
 refine real_args (args':=[.sl 9 a0,.sl 9 a0]) (by subst a1;rfl) ?_
 have hlen:(List.length xs:Int)≤4611686018427387904:=hk _ (by simp[zsItemS])
 refine real tyOk Tryz.func115 (by kernel_rfl) (afun_of rfl ?_)
 refine gx hA 1 ?_
 refine gs (gx hA 5 ?_)
 refine gc (fun c1=> ?_) (fun c1=> ?_)
 ·
  exact no_t c1 (show(A.cmp .neq (A.rlen a0) (A.rlen a0))=false from by subst hA;simp[std])
 refine gk (gs (gx hA 1 ?_))
 refine go_block ?_
 refine go_loopE (fun σ m=>∃(i:Nat) (n5:Int),σ=(S115_1 a0 n5)∧(n5=(i:Int)∧i≤List.length xs)∧m=List.length xs - i) _ [] [0,1,5] [] (S115_1 a0 0) rfl (by cbv) ⟨0,0,rfl,?_,rfl⟩ (fun σ m hI=> ?_)
 ·
  exact⟨rfl,Nat.zero_le _⟩
 obtain⟨i,n5,rfl,⟨hn5,hi⟩,rfl⟩:=hI
 refine gs (gx hA 4 ?_)
 refine gc (fun c2=> ?_) (fun c2=> ?_)
 ·
  have ec2:n5 < (A.rlen a0):=lss_t hA c2
  refine gk (gs ?_)
  refine go_block ?_
  refine gs ?_
  refine go_draw [0,1,2,3,4,5,6,7,8,9] (by cbv) ?_
  refine dn_ hA 2 ?_
  have b9:(0:Int)≤n5:=by
   omega
  have f7:(Int.toNat n5) < List.length xs:=by
   omega
  obtain⟨x3,hx3⟩:∃ x,(xs)[(Int.toNat n5)]? =some x:=⟨_,List.getElem?_eq_getElem f7⟩
  have g9:=List.mem_of_getElem? hx3
  obtain⟨i6,⟨e1,d1,e7,e0,d0,d8,e3,d7⟩⟩:=x3
  have b7:a0[(Int.toNat n5)]? =some [.ii i6,.ii e1,.ii d1,.ii e7,.ii e0,.ii d0,.str d8,.str e3,.str d7]:=by
   exact map_at eItem a1 hx3
  have hkx:=fun(k:Nat) h=>hk k (List.mem_cons_of_mem _ (List.mem_flatMap.2 ⟨_,g9,h⟩))
  refine dops_step rfl rfl rfl (idx_sl rfl rfl rfl rfl rfl b9 rfl b7) ?_
  refine dn_ hA 3 ?_
  refine dops_step rfl rfl rfl (idx_sl rfl rfl rfl rfl rfl b9 rfl b7) ?_
  refine dn_ hA 1 ?_
  have hc5:Real Tryz.prog 140 [.agg [.ii i6,.ii e1,.ii d1,.ii e7,.ii e0,.ii d0,.str d8,.str e3,.str d7],.agg [.ii i6,.ii e1,.ii d1,.ii e7,.ii e0,.ii d0,.str d8,.str e3,.str d7]] (.bool true):=by exact r_laws_eqItem A hA (⟨i6,⟨e1,d1,e7,e0,d0,d8,e3,d7⟩⟩:GItem) hkx
  refine dops_callV rfl rfl (by cbv) (by cbv) hc5 (.inr rfl) ?_
  refine dz hA 1 ?_
  refine gc (fun c6=> ?_) (fun c6=> ?_)
  ·
   exact no_t c6 (show(A.bnot true)=false from by subst hA;rfl)
  refine gk (gy hA 3 ?_)
  refine⟨(S115_1 a0 (A.num .add .i64 n5 1)),List.length xs - (i+1),?_,by cbv,i+1,(A.num .add .i64 n5 1),rfl,?_,rfl⟩
  ·
   omega
  exact⟨by rw[add_i64 hA (by omega) (by omega)];omega,by omega⟩
 have ec2:(A.rlen a0)≤n5:=lss_f hA c2
 refine go_exit ⟨fun _=> ?_,fun h=>absurd rfl h⟩
 refine gx hA 1 ?_
 refine rt (gt ?_)
 show _=(PV.bool true)
 rfl
theorem r_laws_eqSeg (A:Alg)(hA:A=std)(x:GSeg)(hk:∀ k∈zsSeg x,(k:Int)≤4611686018427387904):Real Tryz.prog 79 [.agg (eSeg x),.agg (eSeg x)] (.bool true):=by
 obtain⟨k2,j1,j6,k1⟩:=x
 obtain⟨f2,g1⟩:=nm (k1.map eItem)
 have l3:=rlen_map hA g1
 refine real_args (args':=[.agg [.ii k2,.ii j1,.ii j6,.sl 9 f2],.agg [.ii k2,.ii j1,.ii j6,.sl 9 f2]]) (by subst g1;rfl) ?_
 refine real tyOk Tryz.func79 (by kernel_rfl) (afun_of rfl ?_)
 refine gx hA 3 ?_
 refine gs (gx hA 5 ?_)
 refine gc (fun c1=> ?_) (fun c1=> ?_)
 ·
  exact no_t c1 (show(A.cmp .neq k2 k2)=false from by subst hA;simp[std])
 refine gk (gs (gx hA 5 ?_))
 refine gc (fun c2=> ?_) (fun c2=> ?_)
 ·
  exact no_t c2 (show(A.cmp .neq j1 j1)=false from by subst hA;simp[std])
 refine gk (gs (gx hA 5 ?_))
 refine gc (fun c3=> ?_) (fun c3=> ?_)
 ·
  exact no_t c3 (show(A.cmp .neq j6 j6)=false from by subst hA;simp[std])
 refine gk (gs (gs (gr (rn hA 4 ?_))))
 have hc5:Real Tryz.prog 115 [.sl 9 f2,.sl 9 f2] (.bool true):=by subst g1;exact r_laws_eqItemS A hA k1 (fun k h=>hk k (by simp only[zsSeg,List.mem_append];simp only[h,true_or,or_true]))
 refine cvw hc5 (.inr rfl) ?_
 refine rz hA 1 ?_
 refine gc (fun c6=> ?_) (fun c6=> ?_)
 ·
  exact no_t c6 (show(A.bnot true)=false from by subst hA;rfl)
 refine gk (gx hA 1 ?_)
 refine rt (gt ?_)
 show _=(PV.bool true)
 rfl
def S45_1 (p0:RR)(p1:Int):St:={sl:=[.sl 4 p0,.sl 4 p0,.bad,.bad,.bad,.ii p1,.bad,.bad,.bad,.bad,.bad,.bad,.bad,.bad,.bad,.bad,.bad,.bad,.bad,.bad,.bad,.bad,.bad,.bad,.bad,.bad,.bad],bl:=[]}
theorem r_laws_eqSegS (A:Alg)(hA:A=std)(xs:List GSeg)(hk:∀ k∈zsSegS xs,(k:Int)≤4611686018427387904):Real Tryz.prog 45 [.sl 4 (List.map eSeg xs),.sl 4 (List.map eSeg xs)] (.bool true):=by
 obtain⟨a0,a1⟩:=nm (xs.map eSeg)
 have j3:=rlen_map hA a1
 refine real_args (args':=[.sl 4 a0,.sl 4 a0]) (by subst a1;rfl) ?_
 have hlen:(List.length xs:Int)≤4611686018427387904:=hk _ (by simp[zsSegS])
 refine real tyOk Tryz.func45 (by kernel_rfl) (afun_of rfl ?_)
 refine gx hA 1 ?_
 refine gs (gx hA 5 ?_)
 refine gc (fun c1=> ?_) (fun c1=> ?_)
 ·
  exact no_t c1 (show(A.cmp .neq (A.rlen a0) (A.rlen a0))=false from by subst hA;simp[std])
 refine gk (gs (gx hA 1 ?_))
 refine go_block ?_
 refine go_loopE (fun σ m=>∃(i:Nat) (n5:Int),σ=(S45_1 a0 n5)∧(n5=(i:Int)∧i≤List.length xs)∧m=List.length xs - i) _ [] [0,1,5] [] (S45_1 a0 0) rfl (by cbv) ⟨0,0,rfl,?_,rfl⟩ (fun σ m hI=> ?_)
 ·
  exact⟨rfl,Nat.zero_le _⟩
 obtain⟨i,n5,rfl,⟨hn5,hi⟩,rfl⟩:=hI
 refine gs (gx hA 4 ?_)
 refine gc (fun c2=> ?_) (fun c2=> ?_)
 ·
  have ec2:n5 < (A.rlen a0):=lss_t hA c2
  refine gk (gs ?_)
  refine go_block ?_
  refine gs ?_
  refine go_draw [0,1,2,3,4,5,6,7,8,9] (by cbv) ?_
  refine dn_ hA 2 ?_
  have b9:(0:Int)≤n5:=by
   omega
  have f7:(Int.toNat n5) < List.length xs:=by
   omega
  obtain⟨x3,hx3⟩:∃ x,(xs)[(Int.toNat n5)]? =some x:=⟨_,List.getElem?_eq_getElem f7⟩
  have g9:=List.mem_of_getElem? hx3
  obtain⟨j2,i1,i8,j7⟩:=x3
  obtain⟨g2,f5⟩:=nm (j7.map eItem)
  have l0:=rlen_map hA f5
  have b7:a0[(Int.toNat n5)]? =some [.ii j2,.ii i1,.ii i8,.sl 9 g2]:=by
   subst f5;exact map_at eSeg a1 hx3
  have hkx:=fun(k:Nat) h=>hk k (List.mem_cons_of_mem _ (List.mem_flatMap.2 ⟨_,g9,h⟩))
  refine dops_step rfl rfl rfl (idx_sl rfl rfl rfl rfl rfl b9 rfl b7) ?_
  refine dn_ hA 3 ?_
  refine dops_step rfl rfl rfl (idx_sl rfl rfl rfl rfl rfl b9 rfl b7) ?_
  refine dn_ hA 1 ?_
  have hc5:Real Tryz.prog 79 [.agg [.ii j2,.ii i1,.ii i8,.sl 9 g2],.agg [.ii j2,.ii i1,.ii i8,.sl 9 g2]] (.bool true):=by subst f5;exact r_laws_eqSeg A hA (⟨j2,i1,i8,j7⟩:GSeg) hkx
  refine dops_callV rfl rfl (by cbv) (by cbv) hc5 (.inr rfl) ?_
  refine dz hA 1 ?_
  refine gc (fun c6=> ?_) (fun c6=> ?_)
  ·
   exact no_t c6 (show(A.bnot true)=false from by subst hA;rfl)
  refine gk (gy hA 3 ?_)
  refine⟨(S45_1 a0 (A.num .add .i64 n5 1)),List.length xs - (i+1),?_,by cbv,i+1,(A.num .add .i64 n5 1),rfl,?_,rfl⟩
  ·
   omega
  exact⟨by rw[add_i64 hA (by omega) (by omega)];omega,by omega⟩
 have ec2:(A.rlen a0)≤n5:=lss_f hA c2
 refine go_exit ⟨fun _=> ?_,fun h=>absurd rfl h⟩
 refine gx hA 1 ?_
 refine rt (gt ?_)
 show _=(PV.bool true)
 rfl
theorem r_laws_eqLog (A:Alg)(hA:A=std)(x:GLog)(hk:∀ k∈zsLog x,(k:Int)≤4611686018427387904):Real Tryz.prog 23 [.agg (eLog x),.agg (eLog x)] (.bool true):=by
 obtain⟨⟨f6,g3⟩,i3,k5,f3,f4,g6,d9⟩:=x
 obtain⟨a6,b1⟩:=nm (f6.map eString)
 have k6:=rlen_map hA b1
 obtain⟨b0,d5⟩:=nm (g3.map eWrite)
 have k7:=rlen_map hA d5
 obtain⟨f8,g4⟩:=nm (k5.map eSeg)
 have l4:=rlen_map hA g4
 refine real_args (args':=[.agg [.sl 1 a6,.sl 2 b0,.ii i3,.sl 4 f8,.ii f3,.ii f4,.ii g6,.ii d9],.agg [.sl 1 a6,.sl 2 b0,.ii i3,.sl 4 f8,.ii f3,.ii f4,.ii g6,.ii d9]]) (by subst b1 d5 g4;rfl) ?_
 refine real tyOk Tryz.func23 (by kernel_rfl) (afun_of rfl ?_)
 refine gx hA 3 ?_
 refine gs (gs (gr (rn hA 4 ?_)))
 have hc2:Real Tryz.prog 44 [.agg [.sl 1 a6,.sl 2 b0],.agg [.sl 1 a6,.sl 2 b0]] (.bool true):=by subst b1 d5;exact r_laws_eqDisk A hA (⟨f6,g3⟩:GDisk) (fun k h=>hk k (by simp only[zsLog,List.mem_append];simp only[h,true_or,or_true]))
 refine cvw hc2 (.inr rfl) ?_
 refine rz hA 1 ?_
 refine gc (fun c3=> ?_) (fun c3=> ?_)
 ·
  exact no_t c3 (show(A.bnot true)=false from by subst hA;rfl)
 refine gk (gs (gx hA 5 ?_))
 refine gc (fun c4=> ?_) (fun c4=> ?_)
 ·
  exact no_t c4 (show(A.cmp .neq i3 i3)=false from by subst hA;simp[std])
 refine gk (gs (gs (gr (rn hA 4 ?_))))
 have hc6:Real Tryz.prog 45 [.sl 4 f8,.sl 4 f8] (.bool true):=by subst g4;exact r_laws_eqSegS A hA k5 (fun k h=>hk k (by simp only[zsLog,List.mem_append];simp only[h,true_or,or_true]))
 refine cvw hc6 (.inr rfl) ?_
 refine rz hA 1 ?_
 refine gc (fun c7=> ?_) (fun c7=> ?_)
 ·
  exact no_t c7 (show(A.bnot true)=false from by subst hA;rfl)
 refine gk (gs (gx hA 5 ?_))
 refine gc (fun c8=> ?_) (fun c8=> ?_)
 ·
  exact no_t c8 (show(A.cmp .neq f3 f3)=false from by subst hA;simp[std])
 refine gk (gs (gx hA 5 ?_))
 refine gc (fun c9=> ?_) (fun c9=> ?_)
 ·
  exact no_t c9 (show(A.cmp .neq f4 f4)=false from by subst hA;simp[std])
 refine gk (gs (gx hA 5 ?_))
 refine gc (fun c10=> ?_) (fun c10=> ?_)
 ·
  exact no_t c10 (show(A.cmp .neq g6 g6)=false from by subst hA;simp[std])
 refine gk (gs (gx hA 5 ?_))
 refine gc (fun c11=> ?_) (fun c11=> ?_)
 ·
  exact no_t c11 (show(A.cmp .neq d9 d9)=false from by subst hA;simp[std])
 refine gk (gx hA 1 ?_)
 refine rt (gt ?_)
 show _=(PV.bool true)
 rfl
def S24_1 (p0:RR)(p1:Int):St:={sl:=[.sl 1 p0,.sl 1 p0,.bad,.bad,.bad,.ii p1,.bad,.bad,.bad,.bad,.bad,.bad,.bad,.bad,.bad,.bad,.bad,.bad,.bad,.bad,.bad,.bad,.bad,.bad,.bad,.bad],bl:=[]}
theorem r_laws_eqIntS (A:Alg)(hA:A=std)(xs:List Int)(hk:∀ k∈zsIntS xs,(k:Int)≤4611686018427387904):Real Tryz.prog 24 [.sl 1 (List.map eInt xs),.sl 1 (List.map eInt xs)] (.bool true):=by
 obtain⟨a0,a1⟩:=nm (xs.map eInt)
 have j3:=rlen_map hA a1
 refine real_args (args':=[.sl 1 a0,.sl 1 a0]) (by subst a1;rfl) ?_
 have hlen:(List.length xs:Int)≤4611686018427387904:=hk _ (by simp[zsIntS])
 refine real tyOk Tryz.func24 (by kernel_rfl) (afun_of rfl ?_)
 refine gx hA 1 ?_
 refine gs (gx hA 5 ?_)
 refine gc (fun c1=> ?_) (fun c1=> ?_)
 ·
  exact no_t c1 (show(A.cmp .neq (A.rlen a0) (A.rlen a0))=false from by subst hA;simp[std])
 refine gk (gs (gx hA 1 ?_))
 refine go_block ?_
 refine go_loopE (fun σ m=>∃(i:Nat) (n5:Int),σ=(S24_1 a0 n5)∧(n5=(i:Int)∧i≤List.length xs)∧m=List.length xs - i) _ [] [0,1,5] [] (S24_1 a0 0) rfl (by cbv) ⟨0,0,rfl,?_,rfl⟩ (fun σ m hI=> ?_)
 ·
  exact⟨rfl,Nat.zero_le _⟩
 obtain⟨i,n5,rfl,⟨hn5,hi⟩,rfl⟩:=hI
 refine gs (gx hA 4 ?_)
 refine gc (fun c2=> ?_) (fun c2=> ?_)
 ·
  have ec2:n5 < (A.rlen a0):=lss_t hA c2
  refine gk (gs ?_)
  refine go_block ?_
  refine gs ?_
  refine go_draw [0,1,2,3,4,5,6,7,8] (by cbv) ?_
  refine dn_ hA 2 ?_
  have b9:(0:Int)≤n5:=by
   omega
  have f7:(Int.toNat n5) < List.length xs:=by
   omega
  obtain⟨x3,hx3⟩:∃ x,(xs)[(Int.toNat n5)]? =some x:=⟨_,List.getElem?_eq_getElem f7⟩
  have g9:=List.mem_of_getElem? hx3
  have b7:a0[(Int.toNat n5)]? =some [.ii x3]:=by
   exact map_at eInt a1 hx3
  refine dops_step rfl rfl rfl (idx_sl rfl rfl rfl rfl rfl b9 rfl b7) ?_
  refine dn_ hA 3 ?_
  refine dops_step rfl rfl rfl (idx_sl rfl rfl rfl rfl rfl b9 rfl b7) ?_
  refine dz hA 2 ?_
  refine gc (fun c4=> ?_) (fun c4=> ?_)
  ·
   exact no_t c4 (show(A.cmp .neq x3 x3)=false from by subst hA;simp[std])
  refine gk (gy hA 3 ?_)
  refine⟨(S24_1 a0 (A.num .add .i64 n5 1)),List.length xs - (i+1),?_,by cbv,i+1,(A.num .add .i64 n5 1),rfl,?_,rfl⟩
  ·
   omega
  exact⟨by rw[add_i64 hA (by omega) (by omega)];omega,by omega⟩
 have ec2:(A.rlen a0)≤n5:=lss_f hA c2
 refine go_exit ⟨fun _=> ?_,fun h=>absurd rfl h⟩
 refine gx hA 1 ?_
 refine rt (gt ?_)
 show _=(PV.bool true)
 rfl
theorem r_laws_eqStore (A:Alg)(hA:A=std)(x:GStore)(hk:∀ k∈zsStore x,(k:Int)≤4611686018427387904):Real Tryz.prog 8 [.agg (eStore x),.agg (eStore x)] (.bool true):=by
 obtain⟨⟨⟨e5,e9⟩,b5,i4,a7,a8,b4,a3⟩,j8⟩:=x
 obtain⟨a2,a5⟩:=nm (e5.map eString)
 have j9:=rlen_map hA a5
 obtain⟨a4,a9⟩:=nm (e9.map eWrite)
 have k4:=rlen_map hA a9
 obtain⟨d6,e6⟩:=nm (i4.map eSeg)
 have k8:=rlen_map hA e6
 obtain⟨f0,g0⟩:=nm (j8.map eInt)
 have l1:=rlen_map hA g0
 refine real_args (args':=[.agg [.sl 1 a2,.sl 2 a4,.ii b5,.sl 4 d6,.ii a7,.ii a8,.ii b4,.ii a3,.sl 1 f0],.agg [.sl 1 a2,.sl 2 a4,.ii b5,.sl 4 d6,.ii a7,.ii a8,.ii b4,.ii a3,.sl 1 f0]]) (by subst a5 a9 e6 g0;rfl) ?_
 refine real tyOk Tryz.func8 (by kernel_rfl) (afun_of rfl ?_)
 refine gx hA 3 ?_
 refine gs (gs (gr (rn hA 4 ?_)))
 have hc2:Real Tryz.prog 23 [.agg [.sl 1 a2,.sl 2 a4,.ii b5,.sl 4 d6,.ii a7,.ii a8,.ii b4,.ii a3],.agg [.sl 1 a2,.sl 2 a4,.ii b5,.sl 4 d6,.ii a7,.ii a8,.ii b4,.ii a3]] (.bool true):=by subst a5 a9 e6;exact r_laws_eqLog A hA (⟨⟨e5,e9⟩,b5,i4,a7,a8,b4,a3⟩:GLog) (fun k h=>hk k (by simp only[zsStore,List.mem_append];simp only[h,true_or,or_true]))
 refine cvw hc2 (.inr rfl) ?_
 refine rz hA 1 ?_
 refine gc (fun c3=> ?_) (fun c3=> ?_)
 ·
  exact no_t c3 (show(A.bnot true)=false from by subst hA;rfl)
 refine gk (gs (gs (gr (rn hA 4 ?_))))
 have hc5:Real Tryz.prog 24 [.sl 1 f0,.sl 1 f0] (.bool true):=by subst g0;exact r_laws_eqIntS A hA j8 (fun k h=>hk k (by simp only[zsStore,List.mem_append];simp only[h,true_or,or_true]))
 refine cvw hc5 (.inr rfl) ?_
 refine rz hA 1 ?_
 refine gc (fun c6=> ?_) (fun c6=> ?_)
 ·
  exact no_t c6 (show(A.bnot true)=false from by subst hA;rfl)
 refine gk (gx hA 1 ?_)
 refine rt (gt ?_)
 show _=(PV.bool true)
 rfl
end Go.Av
