/- Walks: records as texts. -/
import Derived.Test.YtjbokkoiicoahaaGreatDoorN1
import Derived.Test.YtjbokkoiicoahaaGreatDoorFr
import Derived.Test.YtjbokkoiicoahaaGreatDoorNu
import Derived.Test.YtjbokkoiicoahaaGreatDoorO1
import Derived.Test.YtjbokkoiicoahaaGreatDoorJ5
namespace Go.Av
open Go Go.Proofs
set_option maxRecDepth 100000
set_option maxHeartbeats 4000000
set_option linter.unusedVariables false
set_option linter.unusedSimpArgs false
def S131_1 (p0:Int)(p1:RR):St:={sl:=[.ii p0,.bad,.bad,.own 4,.bad,.bad,.bad,.bad,.bad,.bad,.bad,.bad,.bad,.bad,.bad,.bad,.bad,.bad,.bad,.bad,.bad,.bad],bl:=[(4,⟨.arr,1,p1⟩)]}
theorem r_impl_varText (A:Alg)(hA:A=std)(n:Int)(h0:0≤n)(h1:n≤34359738367):Real Tryz.prog 131 [.ii n] (.str (strOfNums (vtI A n))):=by
 refine real_args (args':=[.ii n]) (by rfl) ?_
 refine real tyOk Tryz.func131 (by kernel_rfl) (afun_of rfl ?_)
 refine gx hA 1 ?_
 refine gx hA 2 ?_
 refine gs ?_
 refine go_block ?_
 refine go_loopE (fun σ m=>∃(L:List Int) (q:Int) (R:RR),σ=(S131_1 q R)∧(0≤q∧q≤n∧R=List.map eU8 L∧List.length L+Int.toNat q≤Int.toNat n∧vtI A n=L++vtI A q)∧m=Int.toNat q) _ [] [0,3] [4] (S131_1 n ([])) rfl (by cbv) ⟨[],n,[],rfl,?_,rfl⟩ (fun σ m hI=> ?_)
 ·
  exact⟨h0,by omega,rfl,by simp,rfl⟩
 obtain⟨L,q,R,rfl,⟨hq0,hqn,hR,hL,hE⟩,rfl⟩:=hI
 have hq1:Int.fdiv q (2 ^ Int.toNat 7)=q / 128:=fdiv_7 (by omega)
 have lR:=rlen_map hA hR
 refine gs (gx hA 2 ?_)
 refine gc (fun c1=> ?_) (fun c1=> ?_)
 ·
  have ec1:127 < q:=gtr_t hA c1
  refine gk ?_
  refine go_block ?_
  refine gs (gr (rn hA 6 ?_))
  obtain⟨r2,hr2⟩:=nm (R++[[.int .u8 (A.cnv .u8 (A.num .or .i64 (A.num .and .i64 q 127) 128))]]:RR)
  have er2:r2=List.map eU8 (L++([((A.cnv .u8 (A.num .or .i64 (A.num .and .i64 q 127) 128)):Int)])):=by rw[hr2];exact app_eq hR (by rfl)
  have lr2:=rlen_map hA er2
  refine ops_step rfl rfl (app_own rfl rfl rfl rfl rfl rfl rfl rfl hr2 (by cbv) (by cbv) (by cbv) rfl (by
   show(List.length R+List.length ([[.int .u8 (A.cnv .u8 (A.num .or .i64 (A.num .and .i64 q 127) 128))]])) * _≤_
   show(List.length R+1) * 1≤_
   rw[hR,List.length_map];omega) (by decide) (by decide)) ?_
  refine rz hA 1 ?_
  refine gr (rn hA 1 ?_)
  obtain⟨n3,hn3⟩:=nm (Int.fdiv q (2 ^ Int.toNat 7):Int)
  refine ops_ext rfl (ext_shr rfl rfl rfl (by decide) (by decide) hn3) ?_
  refine rz hA 1 ?_
  refine⟨(S131_1 n3 r2),Int.toNat n3,?_,by cbv,(L++[((A.cnv .u8 (A.num .or .i64 (A.num .and .i64 q 127) 128)):Int)]),n3,r2,rfl,?_,rfl⟩
  ·
   omega
  have hq2:n3=q / 128:=by rw[hn3];exact hq1
  refine⟨by omega,by omega,?_,by rw[List.length_append];simp only[List.length_cons,List.length_nil];omega,?_⟩
  ·exact er2
  rw[hE,hq2,vtI,vt_more (by omega),List.append_assoc];rfl
 have ec1:q≤127:=gtr_f hA c1
 refine go_exit ⟨fun _=> ?_,fun h=>absurd rfl h⟩
 refine gs (gr (rn hA 4 ?_))
 obtain⟨r4,hr4⟩:=nm (R++[[.int .u8 (A.cnv .u8 q)]]:RR)
 have er4:r4=List.map eU8 (L++([((A.cnv .u8 q):Int)])):=by rw[hr4];exact app_eq hR (by rfl)
 have lr4:=rlen_map hA er4
 refine ops_step rfl rfl (app_own rfl rfl rfl rfl rfl rfl rfl rfl hr4 (by cbv) (by cbv) (by cbv) rfl (by
  show(List.length R+List.length ([[.int .u8 (A.cnv .u8 q)]])) * _≤_
  show(List.length R+1) * 1≤_
  rw[hR,List.length_map];omega) (by decide) (by decide)) ?_
 obtain⟨s5,hs5⟩:=nm (strOfNums (L++[((A.cnv .u8 q):Int)]):ByteArray)
 have zs5:ByteArray.size s5=List.length (L++[((A.cnv .u8 q):Int)]):=by rw[hs5];exact strN_size _
 refine ops_step rfl rfl (cnv_arr rfl rfl rfl rfl rfl er4 hs5) ?_
 refine rz hA 1 ?_
 refine rt (gt ?_)
 refine congrArg PV.str ?_
 rw[hs5]
 refine congrArg strOfNums ?_
 rw[hE,vtI,vt_last (by omega)]
def S120_1 (p0:Int)(p1:RR):St:={sl:=[.ii p0,.bad,.bad,.own 4,.bad,.bad,.bad,.bad,.bad,.bad,.bad,.bad,.bad,.bad,.bad,.bad,.bad,.bad,.bad,.bad,.bad,.bad],bl:=[(4,⟨.arr,1,p1⟩)]}
theorem r_spec_l01Var (A:Alg)(hA:A=std)(n:Int)(h0:0≤n)(h1:n≤34359738367):Real Tryz.prog 120 [.ii n] (.str (strOfNums (vtR A n))):=by
 refine real_args (args':=[.ii n]) (by rfl) ?_
 refine real tyOk Tryz.func120 (by kernel_rfl) (afun_of rfl ?_)
 refine gx hA 1 ?_
 refine gx hA 2 ?_
 refine gs ?_
 refine go_block ?_
 refine go_loopE (fun σ m=>∃(L:List Int) (q:Int) (R:RR),σ=(S120_1 q R)∧(0≤q∧q≤n∧R=List.map eU8 L∧List.length L+Int.toNat q≤Int.toNat n∧vtR A n=L++vtR A q)∧m=Int.toNat q) _ [] [0,3] [4] (S120_1 n ([])) rfl (by cbv) ⟨[],n,[],rfl,?_,rfl⟩ (fun σ m hI=> ?_)
 ·
  exact⟨h0,by omega,rfl,by simp,rfl⟩
 obtain⟨L,q,R,rfl,⟨hq0,hqn,hR,hL,hE⟩,rfl⟩:=hI
 have hq1:A.num .quo .i64 q 128=q / 128:=by rw[num_quo hA (by unfold i64;omega) (by decide),Int.tdiv_eq_ediv_of_nonneg (by omega)]
 have lR:=rlen_map hA hR
 refine gs (gx hA 2 ?_)
 refine gc (fun c1=> ?_) (fun c1=> ?_)
 ·
  have ec1:127 < q:=gtr_t hA c1
  refine gk ?_
  refine go_block ?_
  refine gs (gr (rn hA 6 ?_))
  obtain⟨r2,hr2⟩:=nm (R++[[.int .u8 (A.cnv .u8 (A.num .add .i64 (A.num .rem .i64 q 128) 128))]]:RR)
  have er2:r2=List.map eU8 (L++([((A.cnv .u8 (A.num .add .i64 (A.num .rem .i64 q 128) 128)):Int)])):=by rw[hr2];exact app_eq hR (by rfl)
  have lr2:=rlen_map hA er2
  refine ops_step rfl rfl (app_own rfl rfl rfl rfl rfl rfl rfl rfl hr2 (by cbv) (by cbv) (by cbv) rfl (by
   show(List.length R+List.length ([[.int .u8 (A.cnv .u8 (A.num .add .i64 (A.num .rem .i64 q 128) 128))]])) * _≤_
   show(List.length R+1) * 1≤_
   rw[hR,List.length_map];omega) (by decide) (by decide)) ?_
  refine rz hA 1 ?_
  refine gy hA 3 ?_
  refine⟨(S120_1 (A.num .quo .i64 q 128) r2),Int.toNat (A.num .quo .i64 q 128),?_,by cbv,(L++[((A.cnv .u8 (A.num .add .i64 (A.num .rem .i64 q 128) 128)):Int)]),(A.num .quo .i64 q 128),r2,rfl,?_,rfl⟩
  ·
   omega
  have hq2:(A.num .quo .i64 q 128)=q / 128:=hq1
  refine⟨by omega,by omega,?_,by rw[List.length_append];simp only[List.length_cons,List.length_nil];omega,?_⟩
  ·exact er2
  rw[hE,hq2,vtR,vt_more (by omega),List.append_assoc];rfl
 have ec1:q≤127:=gtr_f hA c1
 refine go_exit ⟨fun _=> ?_,fun h=>absurd rfl h⟩
 refine gs (gr (rn hA 4 ?_))
 obtain⟨r3,hr3⟩:=nm (R++[[.int .u8 (A.cnv .u8 q)]]:RR)
 have er3:r3=List.map eU8 (L++([((A.cnv .u8 q):Int)])):=by rw[hr3];exact app_eq hR (by rfl)
 have lr3:=rlen_map hA er3
 refine ops_step rfl rfl (app_own rfl rfl rfl rfl rfl rfl rfl rfl hr3 (by cbv) (by cbv) (by cbv) rfl (by
  show(List.length R+List.length ([[.int .u8 (A.cnv .u8 q)]])) * _≤_
  show(List.length R+1) * 1≤_
  rw[hR,List.length_map];omega) (by decide) (by decide)) ?_
 obtain⟨s4,hs4⟩:=nm (strOfNums (L++[((A.cnv .u8 q):Int)]):ByteArray)
 have zs4:ByteArray.size s4=List.length (L++[((A.cnv .u8 q):Int)]):=by rw[hs4];exact strN_size _
 refine ops_step rfl rfl (cnv_arr rfl rfl rfl rfl rfl er3 hs4) ?_
 refine rz hA 1 ?_
 refine rt (gt ?_)
 refine congrArg PV.str ?_
 rw[hs4]
 refine congrArg strOfNums ?_
 rw[hE,vtR,vt_last (by omega)]
end Go.Av
namespace Go.Av
open Go Go.Proofs
set_option maxRecDepth 100000
set_option maxHeartbeats 4000000
set_option linter.unusedVariables false
set_option linter.unusedSimpArgs false
def S95_1 (p0:ByteArray)(p1:Int)(p2:Int)(p3:Int)(p4:Int)(p5:Int)(p6:Int)(p7:Int)(p8:ByteArray)(p9:ByteArray)(p10:ByteArray)(p11:RR):St:={sl:=[.bad,.pt 1 0 0,.bad,.bad,.str p0,.bad,.bad,.bad,.bad,.bad,.bad,.bad,.bad,.bad,.bad,.bad,.bad,.bad,.bad,.bad,.bad,.bad,.bad,.bad,.bad,.own 25,.ii p1,.ii p2,.bad,.bad,.bad,.bad,.bad,.bad,.bad,.bad,.bad,.bad,.bad,.bad,.bad,.bad,.bad,.bad,.bad,.bad,.bad,.bad,.bad,.bad,.bad,.bad,.bad,.bad,.bad,.bad,.bad],bl:=[(1,⟨.var,8,[[.ii p3,.ii p4,.ii p5,.ii p6,.ii p7,.str p8,.str p9,.str p10]]⟩),(25,⟨.arr,1,p11⟩)]}
def S95_2 (p0:ByteArray)(p1:Int)(p2:Int)(p3:RR):St:={sl:=[.bad,.bad,.bad,.bad,.str p0,.bad,.bad,.bad,.bad,.bad,.bad,.bad,.bad,.bad,.bad,.bad,.bad,.bad,.bad,.bad,.bad,.bad,.bad,.bad,.bad,.bad,.bad,.bad,.bad,.bad,.bad,.bad,.bad,.bad,.bad,.bad,.bad,.bad,.bad,.bad,.bad,.bad,.own 42,.ii p1,.ii p2,.bad,.bad,.bad,.bad,.bad,.bad,.bad,.bad,.bad,.bad,.bad,.bad],bl:=[(42,⟨.arr,1,p3⟩)]}
theorem r_impl_RecText (A:Alg)(hA:A=std)(r:GRec)(hz:∀ q∈zsRec r,q≤1048576):Real Tryz.prog 95 [.agg (eRec r)] (.tup [.str (recT A (vtI A) r),.bool (recOk r)]):=by
 obtain⟨a7,a0,a6,a2,a1,a3,a4,a5⟩:=r
 refine real_args (args':=[.agg [.ii a7,.ii a0,.ii a6,.ii a2,.ii a1,.str a3,.str a4,.str a5]]) (by rfl) ?_
 have zUser:ByteArray.size a3≤1048576:=hz _ (by simp[zsRec])
 have zName:ByteArray.size a4≤1048576:=hz _ (by simp[zsRec])
 have zText:ByteArray.size a5≤1048576:=hz _ (by simp[zsRec])
 have yUser:=slen_eq hA a3
 have yName:=slen_eq hA a4
 have yText:=slen_eq hA a5
 have zR:∀ q∈zsRec (⟨a7,a0,a6,a2,a1,a3,a4,a5⟩:GRec),(q:Int)≤4611686018427387904:=fun q hq=>by have:=hz q hq;omega
 refine real tyOk Tryz.func95 (by kernel_rfl) (afun_of rfl ?_)
 refine gx hA 3 ?_
 refine gs (gs (gr (rn hA 1 ?_)))
 obtain⟨b0,b5,hc2⟩:∃(b0:Bool),b0=(recOk (⟨a7,a0,a6,a2,a1,a3,a4,a5⟩:GRec))∧Real Tryz.prog 98 [.agg [.ii a7,.ii a0,.ii a6,.ii a2,.ii a1,.str a3,.str a4,.str a5]] (.bool b0):=⟨_,rfl,by exact r_impl_RecOk A hA (⟨a7,a0,a6,a2,a1,a3,a4,a5⟩:GRec) zR⟩
 refine cvw hc2 (.inr rfl) ?_
 refine rz hA 1 ?_
 refine gc (fun c3=> ?_) (fun c3=> ?_)
 ·
  have c4:b0=false:=bnot_t hA c3
  refine gx hA 2 ?_
  refine rt (gt ?_)
  show _=PV.tup [.str (ByteArray.mk #[]),.bool false]
  have E:recOk (⟨a7,a0,a6,a2,a1,a3,a4,a5⟩:GRec)=false:=by rw[← b5,c4]
  have E2:recT A (vtI A) (⟨a7,a0,a6,a2,a1,a3,a4,a5⟩:GRec)=ByteArray.mk #[]:=by rw[recT,E];rfl
  rw[E,E2]
 have c5:b0=true:=bnot_f hA c3
 refine gk (gx hA 6 ?_)
 refine gs (gs ?_)
 have E:recOk (⟨a7,a0,a6,a2,a1,a3,a4,a5⟩:GRec)=true:=by rw[← b5,c5]
 have hg:=rec_rng E
 have hg:(0≤a0∧a0≤10000)∧(0≤a6∧a6≤10000)∧(0≤a2∧a2≤10000)∧(0≤a1∧a1≤10000):=hg
 have hns:∀ y∈([a0,a6,a2,a1]:List Int),0≤y∧y≤10000:=by simp;omega
 have n4:List.length ([a0,a6,a2,a1]:List Int)=4:=rfl
 have hxs:∀ y∈([a3,a4,a5]:List ByteArray),ByteArray.size y≤1048576:=by simp;omega
 have n3:List.length ([a3,a4,a5]:List ByteArray)=3:=rfl
 have zB:=ofB1_size hA (A.cnv .u8 a7)
 refine gr (rn hA 8 ?_)
 obtain⟨r6,hr6⟩:=nm ([[.ii a0],[.ii a6],[.ii a2],[.ii a1]]:RR)
 have er6:r6=List.map eInt ([a0,a6,a2,a1]:List Int):=by rw[hr6];rfl
 have lr6:=rlen_map hA er6
 refine ops_ext rfl (ext_lit rfl rfl rfl rfl rfl rfl rfl hr6) ?_
 refine rz hA 2 ?_
 refine go_block ?_
 refine go_loopE (fun σ m=>∃(i:Nat) (n:Int) (s1:ByteArray),σ=(S95_1 s1 (A.rlen r6) n a7 a0 a6 a2 a1 a3 a4 a5 r6)∧(n=(i:Int)∧i≤4∧s1=numsA (vtI A) (A.ofB [[.int .u8 (A.cnv .u8 a7)]]) (List.take i ([a0,a6,a2,a1]:List Int))∧ByteArray.size s1≤1+5 * i)∧m=4 - i) _ [.up 25,.up 15,.up 1] [1,4,25,26,27] [1,25] (S95_1 (A.ofB [[.int .u8 (A.cnv .u8 a7)]]) (A.rlen r6) 0 a7 a0 a6 a2 a1 a3 a4 a5 r6) rfl (by cbv) ⟨0,0,(A.ofB [[.int .u8 (A.cnv .u8 a7)]]),rfl,?_,rfl⟩ (fun σ m hI=> ?_)
 ·
  exact⟨rfl,Nat.zero_le _,rfl,by omega⟩
 obtain⟨i,n,s1,rfl,⟨hn,hi,hS,hSz⟩,rfl⟩:=hI
 refine gx hA 1 ?_
 refine gs ?_
 refine gc (fun c7=> ?_) (fun c7=> ?_)
 ·
  have ec7:n < (A.rlen r6):=lss_t hA c7
  refine gk (gs ?_)
  refine go_block ?_
  refine gs (gr ?_)
  have e1:(0:Int)≤n:=by
   omega
  have e4:(Int.toNat n) < List.length ([a0,a6,a2,a1]:List Int):=by
   omega
  obtain⟨x8,hx8⟩:∃ x,(([a0,a6,a2,a1]:List Int))[(Int.toNat n)]? =some x:=⟨_,List.getElem?_eq_getElem e4⟩
  have d8:=List.mem_of_getElem? hx8
  have e2:r6[(Int.toNat n)]? =some [.ii x8]:=by
   exact map_at eInt er6 hx8
  have b4:=hx8
  rw[hn] at b4
  have b4:(([a0,a6,a2,a1]:List Int))[i]? =some x8:=b4
  have e7:=hns _ d8
  have c8:n < (List.length r6:Int):=by
   rw[er6,List.length_map];omega
  refine ops_step rfl rfl (idx_own rfl rfl rfl rfl rfl rfl e1 c8 rfl) ?_
  refine ops_step rfl rfl (ld_arr rfl rfl rfl rfl e2 rfl) ?_
  refine rz hA 1 ?_
  refine gr (rn hA 2 ?_)
  obtain⟨a8,b2,d9⟩:∃(a8:ByteArray),a8=(strOfNums (vtI A x8))∧Real Tryz.prog 131 [.ii x8] (.str a8):=⟨_,rfl,by exact r_impl_varText A hA x8 (by omega) (by omega)⟩
  have d5:ByteArray.size a8≤5:=by rw[b2,strN_size,vtI_len];exact vln_le _ (by omega)
  refine cvw d9 (.inr rfl) ?_
  obtain⟨s12,c0⟩:=nm (s1++a8:ByteArray)
  have f1:ByteArray.size s12=ByteArray.size s1+ByteArray.size a8:=by rw[c0];exact ByteArray.size_append
  have e0:ByteArray.size s1+ByteArray.size a8≤140737488355328:=by
   omega
  refine ops_step rfl rfl (str_add rfl rfl rfl c0 e0) ?_
  refine rz hA 1 ?_
  refine gy hA 2 ?_
  refine⟨(S95_1 s12 (A.rlen r6) (A.num .add .i64 n 1) a7 a0 a6 a2 a1 a3 a4 a5 r6),4 - (i+1),?_,by cbv,i+1,(A.num .add .i64 n 1),s12,rfl,?_,rfl⟩
  ·
   omega
  refine⟨by rw[add_i64 hA (by omega) (by omega)];omega,by omega,?_,by omega⟩
  rw[nums_at b4,c0,hS,b2]
 have ec7:(A.rlen r6)≤n:=lss_f hA c7
 refine go_exit ⟨fun _=> ?_,fun h=>absurd rfl h⟩
 refine gs (gs (gr (rn hA 6 ?_)))
 obtain⟨r13,c1⟩:=nm ([[.str a3],[.str a4],[.str a5]]:RR)
 have b9:r13=List.map eString ([a3,a4,a5]:List ByteArray):=by rw[c1];rfl
 have f0:=rlen_map hA b9
 refine ops_ext rfl (ext_lit rfl rfl rfl rfl rfl rfl rfl c1) ?_
 refine rz hA 2 ?_
 refine go_block ?_
 refine go_loopE (fun σ m=>∃(k:Nat) (n2:Int) (s2:ByteArray),σ=(S95_2 s2 (A.rlen r13) n2 r13)∧(n2=(k:Int)∧k≤3∧s2=strsA (vtI A) s1 (List.take k ([a3,a4,a5]:List ByteArray))∧ByteArray.size s2≤30+1048600 * k)∧m=3 - k) _ [.up 42,.up 25,.up 1] [4,42,43,44] [42] (S95_2 s1 (A.rlen r13) 0 r13) rfl (by cbv) ⟨0,0,s1,rfl,?_,rfl⟩ (fun σ m hI=> ?_)
 ·
  exact⟨rfl,Nat.zero_le _,rfl,by omega⟩
 obtain⟨k,n2,s2,rfl,⟨hk,hkl,hS2,e6⟩,rfl⟩:=hI
 refine gx hA 1 ?_
 refine gs ?_
 refine gc (fun c14=> ?_) (fun c14=> ?_)
 ·
  have e3:n2 < (A.rlen r13):=lss_t hA c14
  refine gk (gs ?_)
  refine go_block ?_
  refine gs (gr ?_)
  have c9:(0:Int)≤n2:=by
   omega
  have c6:(Int.toNat n2) < List.length ([a3,a4,a5]:List ByteArray):=by
   omega
  obtain⟨x15,b8⟩:∃ x,(([a3,a4,a5]:List ByteArray))[(Int.toNat n2)]? =some x:=⟨_,List.getElem?_eq_getElem c6⟩
  have d0:=List.mem_of_getElem? b8
  have d1:r13[(Int.toNat n2)]? =some [.str x15]:=by
   exact map_at eString b9 b8
  have b1:=b8
  rw[hk] at b1
  have b1:(([a3,a4,a5]:List ByteArray))[k]? =some x15:=b1
  have e5:=hxs _ d0
  have d2:=slen_eq hA x15
  have c2:n2 < (List.length r13:Int):=by
   rw[b9,List.length_map];omega
  refine ops_step rfl rfl (idx_own rfl rfl rfl rfl rfl rfl c9 c2 rfl) ?_
  refine ops_step rfl rfl (ld_arr rfl rfl rfl rfl d1 rfl) ?_
  refine rz hA 1 ?_
  refine gr (rn hA 3 ?_)
  obtain⟨a9,b3,d3⟩:∃(a9:ByteArray),a9=(strOfNums (vtI A (A.slen x15)))∧Real Tryz.prog 131 [.ii (A.slen x15)] (.str a9):=⟨_,rfl,by exact r_impl_varText A hA (A.slen x15) (by omega) (by omega)⟩
  have d7:ByteArray.size a9≤5:=by rw[b3,strN_size,vtI_len];exact vln_le _ (by omega)
  refine cvw d3 (.inr rfl) ?_
  refine rn hA 1 ?_
  obtain⟨s19,b7⟩:=nm (a9++x15:ByteArray)
  have e8:ByteArray.size s19=ByteArray.size a9+ByteArray.size x15:=by rw[b7];exact ByteArray.size_append
  have d4:ByteArray.size a9+ByteArray.size x15≤140737488355328:=by
   omega
  refine ops_step rfl rfl (str_add rfl rfl rfl b7 d4) ?_
  obtain⟨s20,b6⟩:=nm (s2++s19:ByteArray)
  have e9:ByteArray.size s20=ByteArray.size s2+ByteArray.size s19:=by rw[b6];exact ByteArray.size_append
  have d6:ByteArray.size s2+ByteArray.size s19≤140737488355328:=by
   omega
  refine ops_step rfl rfl (str_add rfl rfl rfl b6 d6) ?_
  refine rz hA 1 ?_
  refine gy hA 2 ?_
  refine⟨(S95_2 s20 (A.rlen r13) (A.num .add .i64 n2 1) r13),3 - (k+1),?_,by cbv,k+1,(A.num .add .i64 n2 1),s20,rfl,?_,rfl⟩
  ·
   omega
  refine⟨by rw[add_i64 hA (by omega) (by omega)];omega,by omega,?_,by omega⟩
  rw[strs_at b1,b6,hS2,b7,b3,d2]
 have e3:(A.rlen r13)≤n2:=lss_f hA c14
 refine go_exit ⟨fun _=> ?_,fun h=>absurd rfl h⟩
 refine gx hA 3 ?_
 refine rt (gt ?_)
 show _=PV.tup [.str s2,.bool true]
 have E2:recT A (vtI A) (⟨a7,a0,a6,a2,a1,a3,a4,a5⟩:GRec)=s2:=by
  rw[recT,E,if_pos rfl,hS2,List.take_of_length_le (by omega),hS,List.take_of_length_le (by omega)]
  rfl
 rw[E,E2]
end Go.Av
