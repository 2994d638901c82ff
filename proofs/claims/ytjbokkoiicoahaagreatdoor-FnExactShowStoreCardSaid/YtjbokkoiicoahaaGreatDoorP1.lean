/- Walks: free segments. -/
import Derived.Test.YtjbokkoiicoahaaGreatDoorLv
namespace Go.Av
open Go Go.Proofs
set_option maxRecDepth 100000
set_option maxHeartbeats 4000000
set_option linter.unusedVariables false
set_option linter.unusedSimpArgs false
theorem r_noIs (A:Alg)(hA:A=std)(s:GSeg)(qn:Int):Real Tryz.prog 37 [.agg (eSeg s),.rd [.ii qn]] (.bool (noIs qn s)):=by
 obtain⟨f0,f5,f6,e9⟩:=s
 obtain⟨e5,d3⟩:=nm (e9.map eItem)
 have f7:=rlen_map hA d3
 refine real_args (args':=[.agg [.ii f0,.ii f5,.ii f6,.sl 9 e5],.rd [.ii qn]]) (by subst d3;rfl) ?_
 refine real tyOk Tryz.func37 (by kernel_rfl) (afun_of rfl ?_)
 refine gx hA 2 ?_
 refine gx hA 5 ?_
 refine rt (gt ?_)
 show _=(PV.bool (A.cmp .eql f0 qn))
 refine congrArg PV.bool ?_
 subst hA
 simp[noIs,std,Bool.beq_eq_decide_eq,ieq_dec,]
def Sr_IndexFunc_no_1 (p0:RR)(p1:Int)(p2:Int)(p3:Int):St:={sl:=[.sl 4 p0,.fn 37 [.rd [.ii p1]],.bad,.bad,.bad,.bad,.bad,.ii p2,.ii p3,.bad,.bad,.bad,.bad,.bad,.bad,.bad,.bad,.bad,.bad],bl:=[]}
theorem r_IndexFunc_no (A:Alg)(hA:A=std)(xs:List GSeg)(hx:(List.length xs:Int)≤4611686018427387904)(qn:Int):Real Tryz.prog 64 [.sl 4 (List.map eSeg xs),.fn 37 [.rd [.ii qn]]] (.ii (ixF (noIs qn) xs 0)):=by
 obtain⟨b2,b6⟩:=nm (xs.map eSeg)
 have f4:=rlen_map hA b6
 refine real_args (args':=[.sl 4 b2,.fn 37 [.rd [.ii qn]]]) (by subst b6;rfl) ?_
 refine real tyOk Tryz.func64 (by kernel_rfl) (afun_of rfl ?_)
 refine gx hA 1 ?_
 refine gs (gx hA 3 ?_)
 refine go_block ?_
 refine go_loopE (fun σ m=>∃(i:Nat) (n:Int),σ=(Sr_IndexFunc_no_1 b2 qn (A.rlen b2) n)∧(n=(i:Int)∧i≤List.length xs∧ixF (noIs qn) xs 0=ixF (noIs qn) (xs.drop i) i)∧m=List.length xs - i) _ [] [0,1,7,8] [] (Sr_IndexFunc_no_1 b2 qn (A.rlen b2) 0) rfl (by cbv) ⟨0,0,rfl,?_,rfl⟩ (fun σ m hI=> ?_)
 ·
  exact⟨rfl,Nat.zero_le _,rfl⟩
 obtain⟨i,n,rfl,⟨hn,hi,hE⟩,rfl⟩:=hI
 refine gx hA 1 ?_
 refine gs ?_
 refine gc (fun c1=> ?_) (fun c1=> ?_)
 ·
  have ec1:n < (A.rlen b2):=lss_t hA c1
  refine gk (gs ?_)
  refine go_block ?_
  refine gx hA 2 ?_
  refine gs (gr (rn hA 3 ?_))
  have g0:(0:Int)≤n:=by
   omega
  have f9:(Int.toNat n) < List.length xs:=by
   omega
  obtain⟨x2,hx2⟩:∃ x,(xs)[(Int.toNat n)]? =some x:=⟨_,List.getElem?_eq_getElem f9⟩
  have g6:=List.mem_of_getElem? hx2
  obtain⟨d6,b8,b9,b7⟩:=x2
  obtain⟨d1,b5⟩:=nm (b7.map eItem)
  have f2:=rlen_map hA b5
  have g3:b2[(Int.toNat n)]? =some [.ii d6,.ii b8,.ii b9,.sl 9 d1]:=by
   subst b5;exact map_at eSeg b6 hx2
  have d7:=hx2
  rw[hn] at d7
  have d7:(xs)[i]? =some (⟨d6,b8,b9,b7⟩:GSeg):=d7
  refine ops_step rfl rfl (idx_sl rfl rfl rfl rfl rfl g0 rfl g3) ?_
  refine rn hA 1 ?_
  obtain⟨e0,e8,hc4⟩:∃(e0:Bool),e0=(noIs qn (⟨d6,b8,b9,b7⟩:GSeg))∧Real Tryz.prog 37 [.agg [.ii d6,.ii b8,.ii b9,.sl 9 d1],.rd [.ii qn]] (.bool e0):=⟨_,rfl,by subst b5;exact r_noIs A hA (⟨d6,b8,b9,b7⟩:GSeg) qn⟩
  refine cvw hc4 (.inr rfl) ?_
  refine od ?_
  refine gc (fun c5=> ?_) (fun c5=> ?_)
  ·
   refine gx hA 2 ?_
   refine rt (gt ?_)
   refine congrArg (PV.int .i64) ?_
   rw[hE,ix_at d7]
   subst e8
   simp[ec1,c5,hn]
  refine gk (gy hA 2 ?_)
  refine⟨(Sr_IndexFunc_no_1 b2 qn (A.rlen b2) (A.num .add .i64 n 1)),List.length xs - (i+1),?_,by cbv,i+1,(A.num .add .i64 n 1),rfl,?_,rfl⟩
  ·
   omega
  refine⟨by rw[add_i64 hA (by omega) (by omega)];omega,by omega,?_⟩
  rw[hE,ix_at d7]
  subst e8
  simp[ec1,c5]
 have ec1:(A.rlen b2)≤n:=lss_f hA c1
 refine go_exit ⟨fun _=> ?_,fun h=>absurd rfl h⟩
 refine gx hA 1 ?_
 refine rt (gt ?_)
 refine congrArg (PV.int .i64) ?_
 rw[hE];exact ix_end (by omega)
theorem r_ContainsFunc_no (A:Alg)(hA:A=std)(xs:List GSeg)(hx:(List.length xs:Int)≤4611686018427387904)(qn:Int):Real Tryz.prog 36 [.sl 4 (List.map eSeg xs),.fn 37 [.rd [.ii qn]]] (.bool (List.any xs (noIs qn))):=by
 obtain⟨b2,b6⟩:=nm (xs.map eSeg)
 have f4:=rlen_map hA b6
 refine real_args (args':=[.sl 4 b2,.fn 37 [.rd [.ii qn]]]) (by subst b6;rfl) ?_
 refine real tyOk Tryz.func36 (by kernel_rfl) (afun_of rfl ?_)
 refine gx hA 1 ?_
 refine gs (gr (rn hA 2 ?_))
 obtain⟨d9,f3,hc2⟩:∃(d9:Int),d9=(ixF (noIs qn) xs 0)∧Real Tryz.prog 64 [.sl 4 b2,.fn 37 [.rd [.ii qn]]] (.ii d9):=⟨_,rfl,by subst b6;exact r_IndexFunc_no A hA xs (by omega) qn⟩
 refine cvw hc2 (.inr rfl) ?_
 refine rz hA 2 ?_
 refine rt (gt ?_)
 show _=(PV.bool (A.cmp .geq d9 0))
 refine congrArg PV.bool ?_
 rw[f3];exact(ix_any' hA _).symm
def S19_1 (p0:Int)(p1:Int)(p2:RR)(p3:RR)(p4:Int)(p5:RR)(p6:Int)(p7:Int)(p8:Int)(p9:Int)(p10:RR):St:={sl:=[.bad,.pt 1 0 0,.bad,.own 5,.bad,.bad,.bad,.bad,.ii p0,.ii p1,.bad,.bad,.bad,.bad,.bad,.bad,.bad,.bad,.bad,.bad,.bad,.bad,.bad],bl:=[(1,⟨.var,8,[[.sl 1 p2,.sl 2 p3,.ii p4,.sl 4 p5,.ii p6,.ii p7,.ii p8,.ii p9]]⟩),(5,⟨.arr,1,p10⟩)]}
theorem r_impl_FreeSegs (A:Alg)(hA:A=std)(x:GLog)(hn:List.length x.Used≤1048576):Real Tryz.prog 19 [.agg (eLog x)] (.ow 1 (List.map eInt (freeL x.Segs x.Used))):=by
 obtain⟨⟨b3,b4⟩,a3,a2,a6,a7,a8,a4⟩:=x
 obtain⟨a0,a9⟩:=nm (b3.map eString)
 have c0:=rlen_map hA a9
 obtain⟨a1,b0⟩:=nm (b4.map eWrite)
 have d2:=rlen_map hA b0
 obtain⟨a5,b1⟩:=nm (a2.map eSeg)
 have e3:=rlen_map hA b1
 refine real_args (args':=[.agg [.sl 1 a0,.sl 2 a1,.ii a3,.sl 4 a5,.ii a6,.ii a7,.ii a8,.ii a4]]) (by subst a9 b0 b1;rfl) ?_
 have f8:(List.length a2:Int)≤1048576:=by have:List.length a2≤1048576:=hn;omega
 refine real tyOk Tryz.func19 (by kernel_rfl) (afun_of rfl ?_)
 refine gx hA 2 ?_
 refine gx hA 2 ?_
 refine gs (gs (gr (rn hA 2 ?_)))
 obtain⟨m1,hm1⟩:=nm (min a3 11:Int)
 refine ops_ext rfl (ext_min rfl rfl rfl hm1) ?_
 refine rz hA 1 ?_
 refine go_block ?_
 refine go_loopE (fun σ m=>∃(i:Nat) (n:Int) (R:RR),σ=(S19_1 m1 n a0 a1 a3 a5 a6 a7 a8 a4 R)∧(n=(i:Int)∧i≤Int.toNat (min a3 11)∧R=List.map eInt (freeN a2 i))∧m=Int.toNat (min a3 11) - i) _ [.up 5,.up 1] [1,3,8,9] [1,5] (S19_1 m1 0 a0 a1 a3 a5 a6 a7 a8 a4 ([])) rfl (by cbv) ⟨0,0,[],rfl,?_,rfl⟩ (fun σ m hI=> ?_)
 ·
  exact⟨rfl,Nat.zero_le _,rfl⟩
 obtain⟨i,n,R,rfl,⟨hn1,hi,hR⟩,rfl⟩:=hI
 refine gx hA 1 ?_
 refine gs ?_
 refine gc (fun c2=> ?_) (fun c2=> ?_)
 ·
  have ec2:n < m1:=lss_t hA c2
  refine gk (gs ?_)
  refine go_block ?_
  refine gx hA 3 ?_
  refine gs (gr (rn hA 3 ?_))
  obtain⟨d5,e4,hc4⟩:∃(d5:Bool),d5=(List.any a2 (noIs n))∧Real Tryz.prog 36 [.sl 4 a5,.fn 37 [.rd [.ii n]]] (.bool d5):=⟨_,rfl,by subst b1;exact r_ContainsFunc_no A hA a2 (by omega) n⟩
  refine cvw hc4 (.inl trivial) ?_
  refine rz hA 1 ?_
  refine gc (fun c5=> ?_) (fun c5=> ?_)
  ·
   have c6:d5=false:=bnot_t hA c5
   refine gr (rn hA 3 ?_)
   obtain⟨r7,hr7⟩:=nm (R++[[.ii n]]:RR)
   have er7:r7=List.map eInt ((freeN a2 i)++([(n:Int)])):=by rw[hr7];exact app_eq hR (by rfl)
   have lr7:=rlen_map hA er7
   refine ops_step rfl rfl (app_own rfl rfl rfl rfl rfl rfl rfl rfl hr7 (by cbv) (by cbv) (by cbv) rfl (by
    show(List.length R+List.length ([[.ii n]])) * _≤_
    have h1:=freeN_len a2 i
    show(List.length R+1) * 8≤_
    rw[hR,List.length_map];omega) (by decide) (by decide)) ?_
   refine rz hA 1 ?_
   refine gy hA 2 ?_
   refine⟨(S19_1 m1 (A.num .add .i64 n 1) a0 a1 a3 a5 a6 a7 a8 a4 r7),Int.toNat (min a3 11) - (i+1),?_,by cbv,i+1,(A.num .add .i64 n 1),r7,rfl,?_,rfl⟩
   ·
    omega
   have hU:List.any a2 (noIs (i:Int))=false:=by rw[← hn1,← e4,c6]
   refine⟨by rw[add_i64 hA (by omega) (by omega)];omega,by omega,?_⟩
   unfold freeN
   rw[if_neg (by rw[hU];decide)]
   exact by rw[← hn1];exact er7
  have c8:d5=true:=bnot_f hA c5
  refine gk (gy hA 2 ?_)
  refine⟨(S19_1 m1 (A.num .add .i64 n 1) a0 a1 a3 a5 a6 a7 a8 a4 R),Int.toNat (min a3 11) - (i+1),?_,by cbv,i+1,(A.num .add .i64 n 1),R,rfl,?_,rfl⟩
  ·
   omega
  have hU:List.any a2 (noIs (i:Int))=true:=by rw[← hn1,← e4,c8]
  refine⟨by rw[add_i64 hA (by omega) (by omega)];omega,by omega,?_⟩
  unfold freeN
  rw[if_pos (by rw[hU])]
  exact hR
 have ec2:m1≤n:=lss_f hA c2
 refine go_exit ⟨fun _=> ?_,fun h=>absurd rfl h⟩
 refine gx hA 2 ?_
 refine rt (gt ?_)
 refine congrArg (PV.ow 1) ?_
 rw[hR,show i=Int.toNat (min a3 11) by omega]
 rfl
def S12_1 (p0:Int)(p1:RR)(p2:RR)(p3:Int)(p4:RR)(p5:Int)(p6:Int)(p7:Int)(p8:Int)(p9:RR):St:={sl:=[.bad,.pt 1 0 0,.bad,.own 7,.ii p0,.bad,.bad,.bad,.bad,.bad,.bad,.bad,.bad,.bad,.bad,.bad,.bad,.bad,.bad,.bad,.bad,.bad,.bad,.bad,.bad,.bad,.bad,.bad,.bad,.bad,.bad,.bad,.bad,.bad,.bad,.bad,.bad,.bad,.bad,.bad,.bad,.bad,.bad],bl:=[(1,⟨.var,8,[[.sl 1 p1,.sl 2 p2,.ii p3,.sl 4 p4,.ii p5,.ii p6,.ii p7,.ii p8]]⟩),(7,⟨.arr,1,p9⟩)]}
def S12_2 (p0:Int)(p1:Bool)(p2:Int)(p3:Bool)(p4:RR)(p5:RR)(p6:Int)(p7:RR)(p8:Int)(p9:Int)(p10:Int)(p11:Int)(p12:RR):St:={sl:=[.bad,.pt 1 0 0,.bad,.own 7,.ii p0,.bool p1,.ii p2,.bad,.bad,.bad,.bad,.bad,.bad,.ii p0,.bool p3,.bad,.bad,.bad,.bad,.bad,.bad,.bad,.bad,.bad,.bad,.bad,.bad,.bad,.bad,.bad,.bad,.bad,.bad,.bad,.bad,.bad,.bad,.bad,.bad,.bad,.bad,.bad,.bad],bl:=[(1,⟨.var,8,[[.sl 1 p4,.sl 2 p5,.ii p6,.sl 4 p7,.ii p8,.ii p9,.ii p10,.ii p11]]⟩),(7,⟨.arr,1,p12⟩)]}
theorem r_spec_FreeSegs (A:Alg)(hA:A=std)(x:GLog)(hn:List.length x.Used≤1048576):Real Tryz.prog 12 [.agg (eLog x)] (.ow 1 (List.map eInt (freeL x.Segs x.Used))):=by
 obtain⟨⟨b3,b4⟩,a3,a2,a6,a7,a8,a4⟩:=x
 obtain⟨a0,a9⟩:=nm (b3.map eString)
 have c0:=rlen_map hA a9
 obtain⟨a1,b0⟩:=nm (b4.map eWrite)
 have d2:=rlen_map hA b0
 obtain⟨a5,b1⟩:=nm (a2.map eSeg)
 have e3:=rlen_map hA b1
 refine real_args (args':=[.agg [.sl 1 a0,.sl 2 a1,.ii a3,.sl 4 a5,.ii a6,.ii a7,.ii a8,.ii a4]]) (by subst a9 b0 b1;rfl) ?_
 have f8:(List.length a2:Int)≤1048576:=by have:List.length a2≤1048576:=hn;omega
 refine real tyOk Tryz.func12 (by kernel_rfl) (afun_of rfl ?_)
 refine gx hA 2 ?_
 refine gx hA 2 ?_
 refine gs (gx hA 1 ?_)
 refine go_block ?_
 refine go_loopE (fun σ m=>∃(i:Nat) (n:Int) (R:RR),σ=(S12_1 n a0 a1 a3 a5 a6 a7 a8 a4 R)∧(n=(i:Int)∧i≤Int.toNat (min a3 11)∧R=List.map eInt (freeN a2 i))∧m=Int.toNat (min a3 11) - i) _ [.up 7,.up 1] [1,3,4] [1,7] (S12_1 0 a0 a1 a3 a5 a6 a7 a8 a4 ([])) rfl (by cbv) ⟨0,0,[],rfl,?_,rfl⟩ (fun σ m hI=> ?_)
 ·
  exact⟨rfl,Nat.zero_le _,rfl⟩
 obtain⟨i,n,R,rfl,⟨hn1,hi,hR⟩,rfl⟩:=hI
 refine gs (gs (gr (rn hA 5 ?_)))
 refine ops_split 12 rfl (fun c1=> ?_) (fun c1=> ?_)
 ·
  have ec1:n < a3:=lss_t hA c1
  refine rz hA 3 ?_
  refine gc (fun c2=> ?_) (fun c2=> ?_)
  ·
   have ec2:n < 11:=lss_t hA c2
   refine gk (gs ?_)
   refine go_block ?_
   refine gx hA 1 ?_
   refine gs (gx hA 1 ?_)
   refine go_block ?_
   refine go_loopE (fun σ m=>∃(j:Nat) (n2:Int) (ub:Bool),σ=(S12_2 n ub n2 (A.cmp .lss n 11) a0 a1 a3 a5 a6 a7 a8 a4 R)∧(n2=(j:Int)∧j≤List.length a2∧ub=List.any (List.take j a2) (noIs n))∧m=List.length a2 - j) _ [.up 7,.up 1] [1,3,4,5,6,13,14] [1,7] (S12_2 n false 0 (A.cmp .lss n 11) a0 a1 a3 a5 a6 a7 a8 a4 R) rfl (by cbv) ⟨0,0,false,rfl,?_,rfl⟩ (fun σ m hI=> ?_)
   ·
    exact⟨rfl,Nat.zero_le _,rfl⟩
   obtain⟨j,n2,ub,rfl,⟨hj,hjl,hub⟩,rfl⟩:=hI
   refine gs (gx hA 5 ?_)
   refine gc (fun c3=> ?_) (fun c3=> ?_)
   ·
    have ec3:n2 < (A.rlen a5):=lss_t hA c3
    refine gk (gs ?_)
    refine go_block ?_
    refine gr (rn hA 2 ?_)
    refine ops_split 26 rfl (fun c4=> ?_) (fun c4=> ?_)
    ·
     refine rz hA 10 ?_
     refine gy hA 3 ?_
     refine⟨(S12_2 n true (A.num .add .i64 n2 1) (A.cmp .lss n 11) a0 a1 a3 a5 a6 a7 a8 a4 R),List.length a2 - (j+1),?_,by cbv,j+1,(A.num .add .i64 n2 1),true,rfl,?_,rfl⟩
     ·
      omega
     have hT:List.any (List.take (j+1) a2) (noIs n)=true:=by
      have hl:j < List.length a2:=by omega
      rw[any_take (List.getElem?_eq_getElem hl),← hub,c4];rfl
     exact⟨by rw[add_i64 hA (by omega) (by omega)];omega,by omega,hT.symm⟩
    refine rn hA 3 ?_
    have g1:(0:Int)≤n2:=by
     omega
    have g4:(Int.toNat n2) < List.length a2:=by
     omega
    obtain⟨x5,hx5⟩:∃ x,(a2)[(Int.toNat n2)]? =some x:=⟨_,List.getElem?_eq_getElem g4⟩
    have g5:=List.mem_of_getElem? hx5
    obtain⟨d4,e6,e7,d8⟩:=x5
    obtain⟨e1,d0⟩:=nm (d8.map eItem)
    have f1:=rlen_map hA d0
    have g2:a5[(Int.toNat n2)]? =some [.ii d4,.ii e6,.ii e7,.sl 9 e1]:=by
     subst d0;exact map_at eSeg b1 hx5
    have e2:=hx5
    rw[hj] at e2
    have e2:(a2)[j]? =some (⟨d4,e6,e7,d8⟩:GSeg):=e2
    refine ops_stepG rfl rfl rfl rfl (idx_sl rfl rfl rfl rfl rfl g1 rfl g2) ?_
    refine rz hA 6 ?_
    refine gy hA 3 ?_
    refine⟨(S12_2 n (A.cmp .eql d4 n) (A.num .add .i64 n2 1) (A.cmp .lss n 11) a0 a1 a3 a5 a6 a7 a8 a4 R),List.length a2 - (j+1),?_,by cbv,j+1,(A.num .add .i64 n2 1),(A.cmp .eql d4 n),rfl,?_,rfl⟩
    ·
     omega
    have hT:List.any (List.take (j+1) a2) (noIs n)=(A.cmp .eql d4 n):=by
     rw[any_take e2,← hub,c4,Bool.false_or]
     subst hA
     simp[noIs,std,Bool.beq_eq_decide_eq,ieq_dec]
    exact⟨by rw[add_i64 hA (by omega) (by omega)];omega,by omega,hT.symm⟩
   have ec3:(A.rlen a5)≤n2:=lss_f hA c3
   refine go_exit ⟨fun _=> ?_,fun h=>absurd rfl h⟩
   refine gx hA 2 ?_
   refine gc (fun c6=> ?_) (fun c6=> ?_)
   ·
    have c7:ub=false:=bnot_t hA c6
    refine gr (rn hA 3 ?_)
    obtain⟨r8,hr8⟩:=nm (R++[[.ii n]]:RR)
    have er8:r8=List.map eInt ((freeN a2 i)++([(n:Int)])):=by rw[hr8];exact app_eq hR (by rfl)
    have lr8:=rlen_map hA er8
    refine ops_step rfl rfl (app_own rfl rfl rfl rfl rfl rfl rfl rfl hr8 (by cbv) (by cbv) (by cbv) rfl (by
     show(List.length R+List.length ([[.ii n]])) * _≤_
     have h1:=freeN_len a2 i
     show(List.length R+1) * 8≤_
     rw[hR,List.length_map];omega) (by decide) (by decide)) ?_
    refine rz hA 1 ?_
    refine gy hA 3 ?_
    refine⟨(S12_1 (A.num .add .i64 n 1) a0 a1 a3 a5 a6 a7 a8 a4 r8),Int.toNat (min a3 11) - (i+1),?_,by cbv,i+1,(A.num .add .i64 n 1),r8,rfl,?_,rfl⟩
    ·
     omega
    have hU:List.any a2 (noIs (i:Int))=false:=by
     have h:=hub
     rw[List.take_of_length_le (by omega),hn1] at h
     rw[← h];assumption
    refine⟨by rw[add_i64 hA (by omega) (by omega)];omega,by omega,?_⟩
    unfold freeN
    rw[if_neg (by rw[hU];decide)]
    exact by rw[← hn1];exact er8
   have c9:ub=true:=bnot_f hA c6
   refine gk (gy hA 3 ?_)
   refine⟨(S12_1 (A.num .add .i64 n 1) a0 a1 a3 a5 a6 a7 a8 a4 R),Int.toNat (min a3 11) - (i+1),?_,by cbv,i+1,(A.num .add .i64 n 1),R,rfl,?_,rfl⟩
   ·
    omega
   have hU:List.any a2 (noIs (i:Int))=true:=by
    have h:=hub
    rw[List.take_of_length_le (by omega),hn1] at h
    rw[← h];assumption
   refine⟨by rw[add_i64 hA (by omega) (by omega)];omega,by omega,?_⟩
   unfold freeN
   rw[if_pos (by rw[hU])]
   exact hR
  have ec2:11≤n:=lss_f hA c2
  refine go_exit ⟨fun _=> ?_,fun h=>absurd rfl h⟩
  refine gx hA 2 ?_
  refine rt (gt ?_)
  refine congrArg (PV.ow 1) ?_
  rw[hR,show i=Int.toNat (min a3 11) by omega]
  rfl
 have ec1:a3≤n:=lss_f hA c1
 refine rz hA 3 ?_
 refine gc (fun c10=> ?_) (fun c10=> ?_)
 ·
  exact no_t c10 (show false=false from by rfl)
 refine go_exit ⟨fun _=> ?_,fun h=>absurd rfl h⟩
 refine gx hA 2 ?_
 refine rt (gt ?_)
 refine congrArg (PV.ow 1) ?_
 rw[hR,show i=Int.toNat (min a3 11) by omega]
 rfl
end Go.Av
