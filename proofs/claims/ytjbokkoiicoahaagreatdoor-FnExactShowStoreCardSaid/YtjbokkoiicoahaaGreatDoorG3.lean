/- Walks: flags, in the reference. -/
import Derived.Test.YtjbokkoiicoahaaGreatDoorNu
import Derived.Test.YtjbokkoiicoahaaGreatDoorN1
namespace Go.Av
open Go Go.Proofs
set_option maxRecDepth 100000
set_option maxHeartbeats 4000000
set_option linter.unusedVariables false
set_option linter.unusedSimpArgs false
theorem r_impl_Decimal (A:Alg)(hA:A=std)(n:Int)(hn:i64 n):Real Tryz.prog 18 [.ii n] (.str (itoaB n)):=by
 refine real_args (args':=[.ii n]) (by rfl) ?_
 refine real tyOk Tryz.func18 (by kernel_rfl) (afun_of rfl ?_)
 refine gx hA 1 ?_
 refine gs (gr (rn hA 1 ?_))
 obtain⟨a6,b0,hc2⟩:∃(a6:ByteArray),a6=(itoaB n)∧Real Tryz.prog 35 [.ii n] (.str a6):=⟨_,rfl,by exact rItoa A hA n (by assumption)⟩
 refine cvw hc2 (.inr rfl) ?_
 refine rz hA 1 ?_
 refine rt (gt ?_)
 refine congrArg PV.str ?_
 exact b0.symm
theorem r_impl_figures (A:Alg)(hA:A=std)(n:Int)(hn:i64 n):Real Tryz.prog 42 [.ii n] (.str (figB n)):=by
 refine real_args (args':=[.ii n]) (by rfl) ?_
 refine real tyOk Tryz.func42 (by kernel_rfl) (afun_of rfl ?_)
 refine gx hA 1 ?_
 refine gs (gr (rn hA 1 ?_))
 obtain⟨m1,hm1⟩:=nm (max 0 n:Int)
 refine ops_ext rfl (ext_max rfl rfl rfl hm1) ?_
 obtain⟨a5,a9,hc3⟩:∃(a5:ByteArray),a5=(itoaB m1)∧Real Tryz.prog 18 [.ii m1] (.str a5):=⟨_,rfl,by exact r_impl_Decimal A hA m1 (by unfold i64 at *;omega)⟩
 refine cvw hc3 (.inr rfl) ?_
 refine rz hA 1 ?_
 refine rt (gt ?_)
 refine congrArg PV.str ?_
 rw[a9,hm1];rfl
theorem r_spec_l01Figure (A:Alg)(hA:A=std)(n:Int)(h0:0≤n)(h1:n < 10):Real Tryz.prog 27 [.ii n] (.int .u8 (48+n)):=by
 refine real_args (args':=[.ii n]) (by rfl) ?_
 refine real tyOk Tryz.func27 (by kernel_rfl) (afun_of rfl ?_)
 refine gx hA 1 ?_
 refine gs (gx hA 2 ?_)
 refine gc (fun c1=> ?_) (fun c1=> ?_)
 ·
  have ec1:n < 10:=lss_t hA c1
  refine gx hA 4 ?_
  refine rt (gt ?_)
  show _=(PV.int .u8 (A.cnv .u8 (A.num .add .i64 48 n)))
  exact congrArg (PV.int .u8) (fig_u8 hA h0 h1).symm
 have ec1:10≤n:=lss_f hA c1
 exact absurd h1 (by omega)
def S11_1 (p0:Int)(p1:Bool)(p2:ByteArray):St:={sl:=[.ii p0,.bad,.bad,.bool p1,.str p2,.bad,.bad,.bad,.bad,.bad,.bad,.bad,.bad,.bad,.bad,.bad,.bad,.bad,.bad,.bad,.bad,.bad,.bad,.bad,.bad,.bad,.bad,.bad,.bad,.bad],bl:=[]}
theorem r_spec_Decimal (A:Alg)(hA:A=std)(n:Int)(hn:i64 n):Real Tryz.prog 11 [.ii n] (.str (itoaB n)):=by
 refine real_args (args':=[.ii n]) (by rfl) ?_
 refine real tyOk Tryz.func11 (by kernel_rfl) (afun_of rfl ?_)
 refine gx hA 1 ?_
 refine gs (gx hA 2 ?_)
 refine gc (fun c1=> ?_) (fun c1=> ?_)
 ·
  have ec1:n=0:=eql_t hA c1
  refine gx hA 1 ?_
  refine rt (gt ?_)
  refine congrArg PV.str ?_
  rw[show n=0 by omega,itoa_0]
 have ec1:n≠0:=eql_f hA c1
 refine gk (gx hA 3 ?_)
 refine gx hA 1 ?_
 refine gs ?_
 refine go_block ?_
 refine go_loopE (fun σ m=>∃(q:Int) (S:ByteArray),σ=(S11_1 q (A.cmp .lss n 0) S)∧((0≤n→0≤q)∧(n < 0→q≤0)∧Int.natAbs q≤Int.natAbs n∧bOf (dgs (Int.natAbs n))=bOf (dgs (Int.natAbs q))++S)∧m=Int.natAbs q) _ [] [0,3,4] [] (S11_1 n (A.cmp .lss n 0) (ByteArray.mk #[])) rfl (by cbv) ⟨n,(ByteArray.mk #[]),rfl,?_,rfl⟩ (fun σ m hI=> ?_)
 ·
  refine⟨fun h=>h,fun h=>by omega,Nat.le_refl _,?_⟩
  apply ByteArray.ext
  rw[ByteArray.data_append]
  show _=_++#[]
  simp
 obtain⟨q,S,rfl,⟨hp,hm,hb,hE⟩,rfl⟩:=hI
 have hrem:=num_rem hA .i64 q 10
 have hquo:A.num .quo .i64 q 10=Int.tdiv q 10:=num_quo hA (by unfold i64 at *;omega) (by decide)
 have r10:=rem10 q
 have q10:=quo10 q
 have hS:ByteArray.size S≤19:=dgs_app (by unfold i64 at *;omega) hE
 refine gs (gx hA 2 ?_)
 refine gc (fun c2=> ?_) (fun c2=> ?_)
 ·
  have ec2:q≠0:=neq_t hA c2
  refine gk ?_
  refine go_block ?_
  refine gx hA 3 ?_
  refine gs (gx hA 2 ?_)
  refine gc (fun c3=> ?_) (fun c3=> ?_)
  ·
   have ec3:(A.num .rem .i64 q 10) < 0:=lss_t hA c3
   refine gr (rn hA 1 ?_)
   obtain⟨n4,hn4⟩:=nm (IntKind.wrap .i64 (0 - (A.num .rem .i64 q 10)):Int)
   refine ops_ext rfl (ext_neg rfl rfl hn4) ?_
   refine rz hA 1 ?_
   refine gs ?_
   have wn4:=hn4
   rw[wrap64 (by unfold i64;omega)] at wn4
   refine gr (rn hA 1 ?_)
   obtain⟨a1,a7,hc6⟩:∃(a1:Int),a1=(48+n4)∧Real Tryz.prog 27 [.ii n4] (.int .u8 a1):=⟨_,rfl,by exact r_spec_l01Figure A hA n4 (by omega) (by omega)⟩
   refine cvw hc6 (.inr rfl) ?_
   refine rn hA 3 ?_
   obtain⟨s7,hs7⟩:=nm ((A.ofB [[.int .u8 a1]])++S:ByteArray)
   have zs7:ByteArray.size s7=ByteArray.size (A.ofB [[.int .u8 a1]])+ByteArray.size S:=by rw[hs7];exact ByteArray.size_append
   have bs7:ByteArray.size (A.ofB [[.int .u8 a1]])+ByteArray.size S≤140737488355328:=by
    try simp only[ofB_size hA]
    try simp only[show ByteArray.size (ByteArray.mk #[45])=1 from rfl]
    omega
   refine ops_step rfl rfl (str_add rfl rfl rfl hs7 bs7) ?_
   refine rz hA 1 ?_
   refine gy hA 3 ?_
   refine⟨(S11_1 (A.num .quo .i64 q 10) (A.cmp .lss n 0) s7),Int.natAbs (A.num .quo .i64 q 10),?_,by cbv,(A.num .quo .i64 q 10),s7,rfl,?_,rfl⟩
   ·
    rw[hquo];omega
   rw[hquo]
   refine⟨by omega,by omega,by omega,?_⟩
   rw[hE,hs7,show(Int.tdiv q 10).natAbs=q.natAbs / 10 from by omega]
   exact dgs_more (d:=n4) (by omega) (by omega) (by rw[a7,ofB_one hA])
  have ec3:0≤(A.num .rem .i64 q 10):=lss_f hA c3
  refine gk (gs ?_)
  skip
  refine gr (rn hA 1 ?_)
  obtain⟨a0,a8,hc9⟩:∃(a0:Int),a0=(48+(A.num .rem .i64 q 10))∧Real Tryz.prog 27 [.ii (A.num .rem .i64 q 10)] (.int .u8 a0):=⟨_,rfl,by exact r_spec_l01Figure A hA (A.num .rem .i64 q 10) (by omega) (by omega)⟩
  refine cvw hc9 (.inr rfl) ?_
  refine rn hA 3 ?_
  obtain⟨s10,a2⟩:=nm ((A.ofB [[.int .u8 a0]])++S:ByteArray)
  have b6:ByteArray.size s10=ByteArray.size (A.ofB [[.int .u8 a0]])+ByteArray.size S:=by rw[a2];exact ByteArray.size_append
  have b3:ByteArray.size (A.ofB [[.int .u8 a0]])+ByteArray.size S≤140737488355328:=by
   try simp only[ofB_size hA]
   try simp only[show ByteArray.size (ByteArray.mk #[45])=1 from rfl]
   omega
  refine ops_step rfl rfl (str_add rfl rfl rfl a2 b3) ?_
  refine rz hA 1 ?_
  refine gy hA 3 ?_
  refine⟨(S11_1 (A.num .quo .i64 q 10) (A.cmp .lss n 0) s10),Int.natAbs (A.num .quo .i64 q 10),?_,by cbv,(A.num .quo .i64 q 10),s10,rfl,?_,rfl⟩
  ·
   rw[hquo];omega
  rw[hquo]
  refine⟨by omega,by omega,by omega,?_⟩
  rw[hE,a2,show(Int.tdiv q 10).natAbs=q.natAbs / 10 from by omega]
  exact dgs_more (d:=(A.num .rem .i64 q 10)) (by omega) (by omega) (by rw[a8,ofB_one hA])
 have ec2:q=0:=neq_f hA c2
 refine go_exit ⟨fun _=> ?_,fun h=>absurd rfl h⟩
 refine gs (gx hA 1 ?_)
 refine gc (fun c11=> ?_) (fun c11=> ?_)
 ·
  have b2:n < 0:=lss_t hA c11
  refine gs (gr (rn hA 1 ?_))
  obtain⟨s12,a3⟩:=nm ((ByteArray.mk #[45])++S:ByteArray)
  have b5:ByteArray.size s12=ByteArray.size (ByteArray.mk #[45])+ByteArray.size S:=by rw[a3];exact ByteArray.size_append
  have b4:ByteArray.size (ByteArray.mk #[45])+ByteArray.size S≤140737488355328:=by
   try simp only[ofB_size hA]
   try simp only[show ByteArray.size (ByteArray.mk #[45])=1 from rfl]
   omega
  refine ops_step rfl rfl (str_add rfl rfl rfl a3 b4) ?_
  refine rz hA 1 ?_
  refine rt (gt ?_)
  refine congrArg PV.str ?_
  rw[itoa_dgs n (by omega),if_pos (by omega),hE,dgs_done (by omega),a3];rfl
 have b2:0≤n:=lss_f hA c11
 refine gk (gx hA 2 ?_)
 refine rt (gt ?_)
 refine congrArg PV.str ?_
 rw[itoa_dgs n (by omega),if_neg (by omega),hE,dgs_done (by omega)]
theorem r_spec_l20Num (A:Alg)(hA:A=std)(n:Int)(hn:i64 n):Real Tryz.prog 31 [.ii n] (.str (figB n)):=by
 refine real_args (args':=[.ii n]) (by rfl) ?_
 refine real tyOk Tryz.func31 (by kernel_rfl) (afun_of rfl ?_)
 refine gx hA 1 ?_
 refine gs (gx hA 2 ?_)
 refine gc (fun c1=> ?_) (fun c1=> ?_)
 ·
  have ec1:n < 0:=lss_t hA c1
  refine gx hA 1 ?_
  refine rt (gt ?_)
  refine congrArg PV.str ?_
  exact figB_neg (by omega)
 have ec1:0≤n:=lss_f hA c1
 refine gk (gs (gr (rn hA 1 ?_)))
 obtain⟨a4,b1,hc3⟩:∃(a4:ByteArray),a4=(itoaB n)∧Real Tryz.prog 11 [.ii n] (.str a4):=⟨_,rfl,by exact r_spec_Decimal A hA n (by unfold i64 at *;omega)⟩
 refine cvw hc3 (.inr rfl) ?_
 refine rz hA 1 ?_
 refine rt (gt ?_)
 refine congrArg PV.str ?_
 rw[figB_nn (by omega)];exact b1.symm
end Go.Av
namespace Go.Av
open Go Go.Proofs
set_option maxRecDepth 100000
set_option maxHeartbeats 4000000
set_option linter.unusedVariables false
set_option linter.unusedSimpArgs false
def S32_1 (p0:Int)(p1:ByteArray)(p2:Int)(p3:Int)(p4:RR):St:={sl:=[.ii p0,.bad,.bad,.own 7,.str p1,.ii p2,.ii p3,.bad,.bad,.bad,.bad,.bad,.bad,.bad,.bad,.bad,.bad,.bad,.bad,.bad,.bad,.bad,.bad,.bad,.bad,.bad,.bad,.bad,.bad,.bad,.bad,.bad,.bad,.bad],bl:=[(7,⟨.arr,1,p4⟩)]}
theorem r_spec_FlagWords (A:Alg)(hA:A=std)(f:Int)(hf:i64 f):Real Tryz.prog 32 [.ii f] (.str (flagW f)):=by
 refine real_args (args':=[.ii f]) (by rfl) ?_
 refine real tyOk Tryz.func32 (by kernel_rfl) (afun_of rfl ?_)
 refine gx hA 1 ?_
 refine gs (gr ?_)
 obtain⟨r1,hr1⟩:=nm ([[.str (ByteArray.mk #[115,101,101,110])],[.str (ByteArray.mk #[102,108,97,103,103,101,100])],[.str (ByteArray.mk #[100,101,108,101,116,101,100])]]:RR)
 have er1:r1=List.map eString ([(ByteArray.mk #[115,101,101,110]),(ByteArray.mk #[102,108,97,103,103,101,100]),(ByteArray.mk #[100,101,108,101,116,101,100])]:List ByteArray):=by rw[hr1];rfl
 have lr1:=rlen_map hA er1
 refine ops_ext rfl (ext_lit rfl rfl rfl rfl rfl rfl rfl hr1) ?_
 refine rz hA 1 ?_
 refine gx hA 1 ?_
 refine gx hA 1 ?_
 refine gs (gx hA 1 ?_)
 refine go_block ?_
 refine go_loopE (fun σ m=>∃(i:Nat) (k:Int) (p:Int) (S:ByteArray),σ=(S32_1 f S p k r1)∧(k=(i:Int)∧i≤3∧p=2 ^ i∧S=fwS f i)∧m=3 - i) _ [.up 7] [0,3,4,5,6] [7] (S32_1 f (ByteArray.mk #[]) 1 0 r1) rfl (by cbv) ⟨0,0,1,(ByteArray.mk #[]),rfl,?_,rfl⟩ (fun σ m hI=> ?_)
 ·
  exact⟨rfl,by decide,rfl,rfl⟩
 obtain⟨i,k,p,S,rfl,⟨hk,hi,hp,hS⟩,rfl⟩:=hI
 have l3:A.rlen r1=3:=lr1
 have hp0:p=1∨p=2∨p=4∨p=8:=by
  rcases(by omega:i=0∨i=1∨i=2∨i=3) with h | h | h | h<;>simp[hp,h]
 have hz:ByteArray.size S≤20:=hS ▸ fwS_sz f hi
 refine gs (gx hA 4 ?_)
 refine gc (fun c2=> ?_) (fun c2=> ?_)
 ·
  have ec2:k < (A.rlen r1):=lss_t hA c2
  refine gk (gs ?_)
  refine go_block ?_
  refine gs (gs (gr (rn hA 2 ?_)))
  obtain⟨q3,hq3⟩:=nm (IntKind.wrap .i64 (Int.tdiv f p):Int)
  refine ops_step rfl rfl (int_quo rfl rfl rfl (by omega) hq3) ?_
  refine rz hA 2 ?_
  refine gc (fun c4=> ?_) (fun c4=> ?_)
  ·
   have ec4:(A.num .rem .i64 q3 2)≠0:=neq_t hA c4
   refine gs (gx hA 2 ?_)
   refine gc (fun c5=> ?_) (fun c5=> ?_)
   ·
    have ec5:S≠(ByteArray.mk #[]):=sneq_t hA c5
    refine gr (rn hA 1 ?_)
    obtain⟨s6,hs6⟩:=nm (S++(ByteArray.mk #[32]):ByteArray)
    have zs6:ByteArray.size s6=ByteArray.size S+ByteArray.size (ByteArray.mk #[32]):=by rw[hs6];exact ByteArray.size_append
    have bs6:ByteArray.size S+ByteArray.size (ByteArray.mk #[32])≤140737488355328:=by
     have e1:(ByteArray.mk #[40]).size=1:=rfl
     have e2:(ByteArray.mk #[41]).size=1:=rfl
     have e3:(ByteArray.mk #[32]).size=1:=rfl
     omega
    refine ops_step rfl rfl (str_add rfl rfl rfl hs6 bs6) ?_
    refine rz hA 1 ?_
    refine gr (rn hA 3 ?_)
    have b5:(0:Int)≤k:=by
     try simp only[List.length_cons,List.length_nil]
     omega
    have b6:(Int.toNat k) < List.length ([(ByteArray.mk #[115,101,101,110]),(ByteArray.mk #[102,108,97,103,103,101,100]),(ByteArray.mk #[100,101,108,101,116,101,100])]:List ByteArray):=by
     try simp only[List.length_cons,List.length_nil]
     omega
    obtain⟨x7,hx7⟩:∃ x,(([(ByteArray.mk #[115,101,101,110]),(ByteArray.mk #[102,108,97,103,103,101,100]),(ByteArray.mk #[100,101,108,101,116,101,100])]:List ByteArray))[(Int.toNat k)]? =some x:=⟨_,List.getElem?_eq_getElem b6⟩
    have c0:=List.mem_of_getElem? hx7
    have b4:r1[(Int.toNat k)]? =some [.str x7]:=by
     exact map_at eString er1 hx7
    have a1:=hx7
    rw[hk] at a1
    have a1:wdsF[i]? =some x7:=a1
    have b9:=wdF_sz i a1
    have a7:k < (List.length r1:Int):=by
     rw[er1,List.length_map];omega
    refine ops_step rfl rfl (idx_own rfl rfl rfl rfl rfl rfl b5 a7 rfl) ?_
    refine ops_step rfl rfl (ld_arr rfl rfl rfl rfl b4 rfl) ?_
    obtain⟨s9,hs9⟩:=nm (s6++x7:ByteArray)
    have zs9:ByteArray.size s9=ByteArray.size s6+ByteArray.size x7:=by rw[hs9];exact ByteArray.size_append
    have bs9:ByteArray.size s6+ByteArray.size x7≤140737488355328:=by
     have e1:(ByteArray.mk #[40]).size=1:=rfl
     have e2:(ByteArray.mk #[41]).size=1:=rfl
     have e3:(ByteArray.mk #[32]).size=1:=rfl
     omega
    refine ops_step rfl rfl (str_add rfl rfl rfl hs9 bs9) ?_
    refine rz hA 1 ?_
    refine gy hA 3 ?_
    refine gy hA 3 ?_
    refine⟨(S32_1 f s9 (A.num .mul .i64 2 p) (A.num .add .i64 k 1) r1),3 - (i+1),?_,by cbv,i+1,(A.num .add .i64 k 1),(A.num .mul .i64 2 p),s9,rfl,?_,rfl⟩
    ·
     omega
    have hbq:=bit_of hA hf hp (by omega) hq3
    refine⟨by rw[add_i64 hA (by omega) (by omega)];omega,by omega,?_,?_⟩
    ·rw [show A.num .mul .i64 2 p=2 * p from by rw[hA];exact wrap64 (by unfold i64;omega),hp,Int.pow_succ,Int.mul_comm]
    rw[fw_t (f:=f) (i:=i) (by rw[hbq];exact decide_eq_true (by omega)) hS (a1:wdsF[i]? =some x7)]
    rw[if_neg (by assumption),hs9,hs6];rfl
   have ec5:S=(ByteArray.mk #[]):=sneq_f hA c5
   refine gk (gr (rn hA 3 ?_))
   have a8:(0:Int)≤k:=by
    try simp only[List.length_cons,List.length_nil]
    omega
   have a9:(Int.toNat k) < List.length ([(ByteArray.mk #[115,101,101,110]),(ByteArray.mk #[102,108,97,103,103,101,100]),(ByteArray.mk #[100,101,108,101,116,101,100])]:List ByteArray):=by
    try simp only[List.length_cons,List.length_nil]
    omega
   obtain⟨x10,a3⟩:∃ x,(([(ByteArray.mk #[115,101,101,110]),(ByteArray.mk #[102,108,97,103,103,101,100]),(ByteArray.mk #[100,101,108,101,116,101,100])]:List ByteArray))[(Int.toNat k)]? =some x:=⟨_,List.getElem?_eq_getElem a9⟩
   have b8:=List.mem_of_getElem? a3
   have b0:r1[(Int.toNat k)]? =some [.str x10]:=by
    exact map_at eString er1 a3
   have a0:=a3
   rw[hk] at a0
   have a0:wdsF[i]? =some x10:=a0
   have b7:=wdF_sz i a0
   have a6:k < (List.length r1:Int):=by
    rw[er1,List.length_map];omega
   refine ops_step rfl rfl (idx_own rfl rfl rfl rfl rfl rfl a8 a6 rfl) ?_
   refine ops_step rfl rfl (ld_arr rfl rfl rfl rfl b0 rfl) ?_
   obtain⟨s12,a2⟩:=nm (S++x10:ByteArray)
   have c3:ByteArray.size s12=ByteArray.size S+ByteArray.size x10:=by rw[a2];exact ByteArray.size_append
   have b3:ByteArray.size S+ByteArray.size x10≤140737488355328:=by
    have e1:(ByteArray.mk #[40]).size=1:=rfl
    have e2:(ByteArray.mk #[41]).size=1:=rfl
    have e3:(ByteArray.mk #[32]).size=1:=rfl
    omega
   refine ops_step rfl rfl (str_add rfl rfl rfl a2 b3) ?_
   refine rz hA 1 ?_
   refine gy hA 3 ?_
   refine gy hA 3 ?_
   refine⟨(S32_1 f s12 (A.num .mul .i64 2 p) (A.num .add .i64 k 1) r1),3 - (i+1),?_,by cbv,i+1,(A.num .add .i64 k 1),(A.num .mul .i64 2 p),s12,rfl,?_,rfl⟩
   ·
    omega
   have hbq:=bit_of hA hf hp (by omega) hq3
   refine⟨by rw[add_i64 hA (by omega) (by omega)];omega,by omega,?_,?_⟩
   ·rw [show A.num .mul .i64 2 p=2 * p from by rw[hA];exact wrap64 (by unfold i64;omega),hp,Int.pow_succ,Int.mul_comm]
   rw[fw_t (f:=f) (i:=i) (by rw[hbq];exact decide_eq_true (by omega)) hS (a0:wdsF[i]? =some x10)]
   rw[if_pos (by assumption),a2]
   congr 1
  have ec4:(A.num .rem .i64 q3 2)=0:=neq_f hA c4
  refine gk (gy hA 3 ?_)
  refine gy hA 3 ?_
  refine⟨(S32_1 f S (A.num .mul .i64 2 p) (A.num .add .i64 k 1) r1),3 - (i+1),?_,by cbv,i+1,(A.num .add .i64 k 1),(A.num .mul .i64 2 p),S,rfl,?_,rfl⟩
  ·
   omega
  have hbq:=bit_of hA hf hp (by omega) hq3
  refine⟨by rw[add_i64 hA (by omega) (by omega)];omega,by omega,?_,?_⟩
  ·rw [show A.num .mul .i64 2 p=2 * p from by rw[hA];exact wrap64 (by unfold i64;omega),hp,Int.pow_succ,Int.mul_comm]
  rw[fw_f (f:=f) (i:=i) (by rw[hbq];exact decide_eq_false (by omega)),hS]
 have ec2:(A.rlen r1)≤k:=lss_f hA c2
 refine go_exit ⟨fun _=> ?_,fun h=>absurd rfl h⟩
 refine gs (gr (rn hA 1 ?_))
 obtain⟨s13,a4⟩:=nm ((ByteArray.mk #[40])++S:ByteArray)
 have c6:ByteArray.size s13=ByteArray.size (ByteArray.mk #[40])+ByteArray.size S:=by rw[a4];exact ByteArray.size_append
 have b1:ByteArray.size (ByteArray.mk #[40])+ByteArray.size S≤140737488355328:=by
  have e1:(ByteArray.mk #[40]).size=1:=rfl
  have e2:(ByteArray.mk #[41]).size=1:=rfl
  have e3:(ByteArray.mk #[32]).size=1:=rfl
  omega
 refine ops_step rfl rfl (str_add rfl rfl rfl a4 b1) ?_
 obtain⟨s14,a5⟩:=nm (s13++(ByteArray.mk #[41]):ByteArray)
 have c1:ByteArray.size s14=ByteArray.size s13+ByteArray.size (ByteArray.mk #[41]):=by rw[a5];exact ByteArray.size_append
 have b2:ByteArray.size s13+ByteArray.size (ByteArray.mk #[41])≤140737488355328:=by
  have e1:(ByteArray.mk #[40]).size=1:=rfl
  have e2:(ByteArray.mk #[41]).size=1:=rfl
  have e3:(ByteArray.mk #[32]).size=1:=rfl
  omega
 refine ops_step rfl rfl (str_add rfl rfl rfl a5 b2) ?_
 refine rz hA 1 ?_
 refine rt (gt ?_)
 refine congrArg PV.str ?_
 rw[a5,a4,hS,show i=3 by omega];rfl
end Go.Av
