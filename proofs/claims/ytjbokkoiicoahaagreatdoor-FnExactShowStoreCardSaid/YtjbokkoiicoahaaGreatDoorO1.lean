/- Walks: sums. -/
import Derived.Test.YtjbokkoiicoahaaGreatDoorN1
import Derived.Test.YtjbokkoiicoahaaGreatDoorFr
namespace Go.Av
open Go Go.Proofs
set_option maxRecDepth 100000
set_option maxHeartbeats 4000000
set_option linter.unusedVariables false
set_option linter.unusedSimpArgs false
def S176_1 (p0:Int)(p1:ByteArray)(p2:Int)(p3:Int):St:={sl:=[.int .u32 p0,.str p1,.bad,.bad,.bad,.bad,.bad,.bad,.ii p2,.ii p3,.bad,.bad,.bad,.bad,.bad,.bad,.bad,.bad,.bad,.bad,.bad,.bad,.bad,.bad,.bad,.bad,.bad,.bad,.bad,.bad,.bad],bl:=[]}
def S176_2 (p0:Int)(p1:ByteArray)(p2:Int)(p3:Int)(p4:Int):St:={sl:=[.int .u32 p0,.str p1,.bad,.bad,.bad,.bad,.bad,.bad,.ii p2,.ii p3,.bad,.bad,.bad,.bad,.bad,.bad,.bad,.bad,.ii p4,.bad,.bad,.bad,.bad,.bad,.bad,.bad,.bad,.bad,.bad,.bad,.bad],bl:=[]}
theorem r_impl_SumMore (A:Alg)(hA:A=std)(s:Int)(t:ByteArray)(hz:ByteArray.size t≤1048576):Real Tryz.prog 176 [.int .u32 s,.str t] (.int .u32 (sumA A (stI A) s t)):=by
 refine real_args (args':=[.int .u32 s,.str t]) (by rfl) ?_
 refine real tyOk Tryz.func176 (by kernel_rfl) (afun_of rfl ?_)
 refine gx hA 1 ?_
 refine gs (gx hA 3 ?_)
 refine go_block ?_
 refine go_loopE (fun σ m=>∃(i:Nat) (n:Int) (S:Int),σ=(S176_1 S t (A.slen t) n)∧(n=(i:Int)∧i≤ByteArray.size t∧sumA A (stI A) s t=sumG A (stI A) t i (ByteArray.size t - i) S)∧m=ByteArray.size t - i) _ [] [0,1,8,9] [] (S176_1 s t (A.slen t) 0) rfl (by cbv) ⟨0,0,s,rfl,?_,rfl⟩ (fun σ m hI=> ?_)
 ·
  exact⟨rfl,Nat.zero_le _,rfl⟩
 obtain⟨i,n,S,rfl,⟨hn,hi,hE⟩,rfl⟩:=hI
 have zs:=slen_eq hA t
 refine gx hA 1 ?_
 refine gs ?_
 refine gc (fun c1=> ?_) (fun c1=> ?_)
 ·
  have ec1:n < (A.slen t):=lss_t hA c1
  refine gk (gs ?_)
  refine go_block ?_
  refine gx hA 2 ?_
  refine gs (gr (rn hA 3 ?_))
  have zy2:A.slen t=(ByteArray.size t:Int):=slen_eq hA t
  have a7:(0:Int)≤n:=by omega
  have a8:n < (ByteArray.size t:Int):=by omega
  obtain⟨y2,hy2⟩:=nm (byteAt t n:Int)
  refine ops_step rfl rfl (idx_str rfl rfl rfl rfl a7 a8 hy2) ?_
  refine rz hA 3 ?_
  refine gx hA 1 ?_
  refine go_block ?_
  refine go_loopE (fun σ m=>∃(j:Nat) (n2:Int) (S2:Int),σ=(S176_2 S2 t (A.slen t) n n2)∧(n2=(j:Int)∧j≤8∧itN (stI A) 8 (A.num .xor .u32 S (A.cnv .u32 y2))=itN (stI A) (8 - j) S2)∧m=8 - j) _ [] [0,1,8,9,18] [] (S176_2 (A.num .xor .u32 S (A.cnv .u32 y2)) t (A.slen t) n 0) rfl (by cbv) ⟨0,0,(A.num .xor .u32 S (A.cnv .u32 y2)),rfl,?_,rfl⟩ (fun σ m hI=> ?_)
  ·
   exact⟨rfl,Nat.zero_le _,rfl⟩
  obtain⟨j,n2,S2,rfl,⟨hk,hk8,hE2⟩,rfl⟩:=hI
  refine gx hA 1 ?_
  refine gs ?_
  refine gc (fun c3=> ?_) (fun c3=> ?_)
  ·
   have ec3:n2 < 8:=lss_t hA c3
   refine gk (gs ?_)
   refine go_block ?_
   refine gx hA 4 ?_
   refine gs (gr (rn hA 1 ?_))
   obtain⟨n4,hn4⟩:=nm (Int.fdiv S2 (2 ^ Int.toNat 1):Int)
   refine ops_ext rfl (ext_shr rfl rfl rfl (by decide) (by decide) hn4) ?_
   refine rz hA 1 ?_
   refine gx hA 1 ?_
   refine gc (fun c5=> ?_) (fun c5=> ?_)
   ·
    have ec5:(A.num .and .u32 S2 1)=1:=eql_t hA c5
    refine gy hA 3 ?_
    refine gy hA 2 ?_
    refine⟨(S176_2 (A.num .xor .u32 n4 3558460437) t (A.slen t) n (A.num .add .i64 n2 1)),8 - (j+1),?_,by cbv,j+1,(A.num .add .i64 n2 1),(A.num .xor .u32 n4 3558460437),rfl,?_,rfl⟩
    ·
     omega
    refine⟨by rw[add_i64 hA (by omega) (by omega)];omega,by omega,?_⟩
    rw[hE2,itN_at (by omega)]
    refine congrArg _ ?_
    unfold stI
    rw[if_pos (show A.cmp .eql (A.num .and .u32 S2 1) 1=true from c5),hn4]
   have ec5:(A.num .and .u32 S2 1)≠1:=eql_f hA c5
   refine gk (gy hA 2 ?_)
   refine⟨(S176_2 n4 t (A.slen t) n (A.num .add .i64 n2 1)),8 - (j+1),?_,by cbv,j+1,(A.num .add .i64 n2 1),n4,rfl,?_,rfl⟩
   ·
    omega
   refine⟨by rw[add_i64 hA (by omega) (by omega)];omega,by omega,?_⟩
   rw[hE2,itN_at (by omega)]
   refine congrArg _ ?_
   unfold stI
   rw[if_neg (by rw[show A.cmp .eql (A.num .and .u32 S2 1) 1=false from c5];decide),hn4]
  have ec3:8≤n2:=lss_f hA c3
  refine go_exit ⟨fun _=> ?_,fun h=>absurd rfl h⟩
  refine gy hA 2 ?_
  refine⟨(S176_1 S2 t (A.slen t) (A.num .add .i64 n 1)),ByteArray.size t - (i+1),?_,by cbv,i+1,(A.num .add .i64 n 1),S2,rfl,?_,rfl⟩
  ·
   omega
  have hI:itN (stI A) 8 (A.num .xor .u32 S (A.cnv .u32 y2))=S2:=by rw[hE2,show 8 - j=0 by omega];rfl
  refine⟨by rw[add_i64 hA (by omega) (by omega)];omega,by omega,?_⟩
  rw[hE,sumG_at (by omega),show byteAt t (i:Int)=y2 from by rw[hy2,hn],hI]
 have ec1:(A.slen t)≤n:=lss_f hA c1
 refine go_exit ⟨fun _=> ?_,fun h=>absurd rfl h⟩
 refine gx hA 2 ?_
 refine rt (gt ?_)
 refine congrArg (PV.int .u32) ?_
 rw[hE,sumG_end (by omega)]
theorem r_impl_SumOf (A:Alg)(hA:A=std)(t:ByteArray)(hz:ByteArray.size t≤1048576):Real Tryz.prog 169 [.str t] (.int .u32 (sumA A (stI A) 4294967295 t)):=by
 refine real_args (args':=[.str t]) (by rfl) ?_
 refine real tyOk Tryz.func169 (by kernel_rfl) (afun_of rfl ?_)
 refine gx hA 1 ?_
 refine gs (gr (rn hA 1 ?_))
 obtain⟨a3,a5,hc2⟩:∃(a3:Int),a3=(sumA A (stI A) 4294967295 t)∧Real Tryz.prog 176 [.int .u32 4294967295,.str t] (.int .u32 a3):=⟨_,rfl,by exact r_impl_SumMore A hA 4294967295 t (by assumption)⟩
 refine cvw hc2 (.inr rfl) ?_
 refine rz hA 1 ?_
 refine rt (gt ?_)
 show _=(PV.int .u32 a3)
 exact congrArg (PV.int .u32) a5.symm
theorem r_impl_seal (A:Alg)(hA:A=std)(t:ByteArray)(hz:ByteArray.size t≤1048576):Real Tryz.prog 154 [.str t] (.str (sealA A (stI A) t)):=by
 refine real_args (args':=[.str t]) (by rfl) ?_
 refine real tyOk Tryz.func154 (by kernel_rfl) (afun_of rfl ?_)
 refine gx hA 1 ?_
 refine gs (gr (rn hA 1 ?_))
 obtain⟨a1,a9,hc2⟩:∃(a1:Int),a1=(sumA A (stI A) 4294967295 t)∧Real Tryz.prog 169 [.str t] (.int .u32 a1):=⟨_,rfl,by exact r_impl_SumOf A hA t (by assumption)⟩
 refine cvw hc2 (.inr rfl) ?_
 refine rz hA 1 ?_
 refine gs (gr (rn hA 1 ?_))
 obtain⟨n3,hn3⟩:=nm (Int.fdiv a1 (2 ^ Int.toNat 24):Int)
 refine ops_ext rfl (ext_shr rfl rfl rfl (by decide) (by decide) hn3) ?_
 refine rn hA 2 ?_
 obtain⟨n4,hn4⟩:=nm (Int.fdiv a1 (2 ^ Int.toNat 16):Int)
 refine ops_ext rfl (ext_shr rfl rfl rfl (by decide) (by decide) hn4) ?_
 refine rn hA 2 ?_
 obtain⟨n5,hn5⟩:=nm (Int.fdiv a1 (2 ^ Int.toNat 8):Int)
 refine ops_ext rfl (ext_shr rfl rfl rfl (by decide) (by decide) hn5) ?_
 refine rn hA 3 ?_
 obtain⟨r6,hr6⟩:=nm ([[.int .u8 (A.cnv .u8 n3)],[.int .u8 (A.cnv .u8 n4)],[.int .u8 (A.cnv .u8 n5)],[.int .u8 (A.cnv .u8 a1)]]:RR)
 have er6:r6=List.map eU8 ([(A.cnv .u8 n3),(A.cnv .u8 n4),(A.cnv .u8 n5),(A.cnv .u8 a1)]:List Int):=by rw[hr6];rfl
 have lr6:=rlen_map hA er6
 refine ops_ext rfl (ext_lit rfl rfl rfl rfl rfl rfl rfl hr6) ?_
 obtain⟨s7,hs7⟩:=nm (strOfNums ([(A.cnv .u8 n3),(A.cnv .u8 n4),(A.cnv .u8 n5),(A.cnv .u8 a1)]:List Int):ByteArray)
 have zs7:ByteArray.size s7=List.length ([(A.cnv .u8 n3),(A.cnv .u8 n4),(A.cnv .u8 n5),(A.cnv .u8 a1)]:List Int):=by rw[hs7];exact strN_size _
 refine ops_step rfl rfl (cnv_arr rfl rfl rfl rfl rfl er6 hs7) ?_
 refine rz hA 1 ?_
 refine rt (gt ?_)
 refine congrArg PV.str ?_
 subst hs7 hn5 hn4 hn3 a9
 rfl
theorem r_impl_Sealed (A:Alg)(hA:A=std)(t:ByteArray)(hz:ByteArray.size t≤1048576):Real Tryz.prog 132 [.str t] (.tup [.str (sealedA A (stI A) t),.bool (sealedB t)]):=by
 refine real_args (args':=[.str t]) (by rfl) ?_
 refine real tyOk Tryz.func132 (by kernel_rfl) (afun_of rfl ?_)
 refine gx hA 2 ?_
 refine gs (gx hA 3 ?_)
 refine gc (fun c1=> ?_) (fun c1=> ?_)
 ·
  have ec1:20000 < (A.slen t):=gtr_t hA c1
  refine gx hA 2 ?_
  refine rt (gt ?_)
  show _=PV.tup [.str (ByteArray.mk #[]),.bool false]
  have zt:=slen_eq hA t
  have E:sealedB t=false:=by unfold sealedB;rw[decide_eq_true (show 20000 < (t.size:Int) by omega)];rfl
  have E2:sealedA A (stI A) t=ByteArray.mk #[]:=by unfold sealedA;rw[if_pos (show 20000 < (t.size:Int) by omega)]
  rw[E,E2]
 have ec1:(A.slen t)≤20000:=gtr_f hA c1
 refine gk (gs (gr (rn hA 2 ?_)))
 obtain⟨a0,a4,hc3⟩:∃(a0:ByteArray),a0=(sealA A (stI A) t)∧Real Tryz.prog 154 [.str t] (.str a0):=⟨_,rfl,by exact r_impl_seal A hA t (by assumption)⟩
 refine cvw hc3 (.inr rfl) ?_
 obtain⟨s4,hs4⟩:=nm (t++a0:ByteArray)
 have zs4:ByteArray.size s4=ByteArray.size t+ByteArray.size a0:=by rw[hs4];exact ByteArray.size_append
 have bs4:ByteArray.size t+ByteArray.size a0≤140737488355328:=by
  have h4:ByteArray.size a0=4:=by rw[a4];first | exact seal_size _ _ _ | exact four_size _ _
  omega
 refine ops_step rfl rfl (str_add rfl rfl rfl hs4 bs4) ?_
 refine rz hA 2 ?_
 refine rt (gt ?_)
 show _=PV.tup [.str s4,.bool true]
 have zt:=slen_eq hA t
 have E:sealedB t=true:=by unfold sealedB;rw[decide_eq_false (show ¬ 20000 < (t.size:Int) by omega)];rfl
 have E2:sealedA A (stI A) t=s4:=by unfold sealedA;rw[if_neg (show ¬ 20000 < (t.size:Int) by omega),hs4];subst a4;rfl
 rw[E,E2]
def S166_1 (p0:Int)(p1:ByteArray)(p2:Int):St:={sl:=[.int .u32 p0,.str p1,.bad,.bad,.bad,.ii p2,.bad,.bad,.bad,.bad,.bad,.bad,.bad,.bad,.bad,.bad,.bad,.bad,.bad,.bad,.bad,.bad,.bad,.bad,.bad,.bad,.bad,.bad,.bad,.bad,.bad,.bad,.bad],bl:=[]}
def S166_2 (p0:Int)(p1:ByteArray)(p2:Int)(p3:Int):St:={sl:=[.int .u32 p0,.str p1,.bad,.bad,.bad,.ii p2,.ii p3,.bad,.bad,.bad,.bad,.bad,.bad,.bad,.bad,.bad,.bad,.bad,.bad,.bad,.bad,.bad,.bad,.bad,.bad,.bad,.bad,.bad,.bad,.bad,.bad,.bad,.bad],bl:=[]}
theorem r_spec_SumMore (A:Alg)(hA:A=std)(s:Int)(t:ByteArray)(hz:ByteArray.size t≤1048576):Real Tryz.prog 166 [.int .u32 s,.str t] (.int .u32 (sumA A (stR A) s t)):=by
 refine real_args (args':=[.int .u32 s,.str t]) (by rfl) ?_
 refine real tyOk Tryz.func166 (by kernel_rfl) (afun_of rfl ?_)
 refine gx hA 1 ?_
 refine gs (gx hA 1 ?_)
 refine go_block ?_
 refine go_loopE (fun σ m=>∃(i:Nat) (n:Int) (S:Int),σ=(S166_1 S t n)∧(n=(i:Int)∧i≤ByteArray.size t∧sumA A (stR A) s t=sumG A (stR A) t i (ByteArray.size t - i) S)∧m=ByteArray.size t - i) _ [] [0,1,5] [] (S166_1 s t 0) rfl (by cbv) ⟨0,0,s,rfl,?_,rfl⟩ (fun σ m hI=> ?_)
 ·
  exact⟨rfl,Nat.zero_le _,rfl⟩
 obtain⟨i,n,S,rfl,⟨hn,hi,hE⟩,rfl⟩:=hI
 have zs:=slen_eq hA t
 refine gs (gx hA 4 ?_)
 refine gc (fun c1=> ?_) (fun c1=> ?_)
 ·
  have ec1:n < (A.slen t):=lss_t hA c1
  refine gk (gs ?_)
  refine go_block ?_
  refine gs (gr (rn hA 3 ?_))
  have zy2:A.slen t=(ByteArray.size t:Int):=slen_eq hA t
  have a7:(0:Int)≤n:=by omega
  have a8:n < (ByteArray.size t:Int):=by omega
  obtain⟨y2,hy2⟩:=nm (byteAt t n:Int)
  refine ops_step rfl rfl (idx_str rfl rfl rfl rfl a7 a8 hy2) ?_
  refine rz hA 3 ?_
  refine gx hA 1 ?_
  refine go_block ?_
  refine go_loopE (fun σ m=>∃(j:Nat) (n2:Int) (S2:Int),σ=(S166_2 S2 t n n2)∧(n2=(j:Int)∧j≤8∧itN (stR A) 8 (A.num .xor .u32 S (A.cnv .u32 y2))=itN (stR A) (8 - j) S2)∧m=8 - j) _ [] [0,1,5,6] [] (S166_2 (A.num .xor .u32 S (A.cnv .u32 y2)) t n 0) rfl (by cbv) ⟨0,0,(A.num .xor .u32 S (A.cnv .u32 y2)),rfl,?_,rfl⟩ (fun σ m hI=> ?_)
  ·
   exact⟨rfl,Nat.zero_le _,rfl⟩
  obtain⟨j,n2,S2,rfl,⟨hk,hk8,hE2⟩,rfl⟩:=hI
  refine gs (gx hA 2 ?_)
  refine gc (fun c3=> ?_) (fun c3=> ?_)
  ·
   have ec3:n2 < 8:=lss_t hA c3
   refine gk (gs ?_)
   refine go_block ?_
   refine gx hA 4 ?_
   refine gx hA 3 ?_
   refine gx hA 1 ?_
   refine gc (fun c4=> ?_) (fun c4=> ?_)
   ·
    have ec4:(A.num .rem .u32 S2 2)=1:=eql_t hA c4
    refine gy hA 3 ?_
    refine gy hA 3 ?_
    refine⟨(S166_2 (A.num .xor .u32 (A.num .quo .u32 S2 2) 3558460437) t n (A.num .add .i64 n2 1)),8 - (j+1),?_,by cbv,j+1,(A.num .add .i64 n2 1),(A.num .xor .u32 (A.num .quo .u32 S2 2) 3558460437),rfl,?_,rfl⟩
    ·
     omega
    refine⟨by rw[add_i64 hA (by omega) (by omega)];omega,by omega,?_⟩
    rw[hE2,itN_at (by omega)]
    refine congrArg _ ?_
    unfold stR
    rw[if_pos (show A.cmp .eql (A.num .rem .u32 S2 2) 1=true from c4)]
   have ec4:(A.num .rem .u32 S2 2)≠1:=eql_f hA c4
   refine gk (gy hA 3 ?_)
   refine⟨(S166_2 (A.num .quo .u32 S2 2) t n (A.num .add .i64 n2 1)),8 - (j+1),?_,by cbv,j+1,(A.num .add .i64 n2 1),(A.num .quo .u32 S2 2),rfl,?_,rfl⟩
   ·
    omega
   refine⟨by rw[add_i64 hA (by omega) (by omega)];omega,by omega,?_⟩
   rw[hE2,itN_at (by omega)]
   refine congrArg _ ?_
   unfold stR
   rw[if_neg (by rw[show A.cmp .eql (A.num .rem .u32 S2 2) 1=false from c4];decide)]
  have ec3:8≤n2:=lss_f hA c3
  refine go_exit ⟨fun _=> ?_,fun h=>absurd rfl h⟩
  refine gy hA 3 ?_
  refine⟨(S166_1 S2 t (A.num .add .i64 n 1)),ByteArray.size t - (i+1),?_,by cbv,i+1,(A.num .add .i64 n 1),S2,rfl,?_,rfl⟩
  ·
   omega
  have hI:itN (stR A) 8 (A.num .xor .u32 S (A.cnv .u32 y2))=S2:=by rw[hE2,show 8 - j=0 by omega];rfl
  refine⟨by rw[add_i64 hA (by omega) (by omega)];omega,by omega,?_⟩
  rw[hE,sumG_at (by omega),show byteAt t (i:Int)=y2 from by rw[hy2,hn],hI]
 have ec1:(A.slen t)≤n:=lss_f hA c1
 refine go_exit ⟨fun _=> ?_,fun h=>absurd rfl h⟩
 refine gx hA 2 ?_
 refine rt (gt ?_)
 refine congrArg (PV.int .u32) ?_
 rw[hE,sumG_end (by omega)]
theorem r_spec_SumOf (A:Alg)(hA:A=std)(t:ByteArray)(hz:ByteArray.size t≤1048576):Real Tryz.prog 143 [.str t] (.int .u32 (sumA A (stR A) 4294967295 t)):=by
 refine real_args (args':=[.str t]) (by rfl) ?_
 refine real tyOk Tryz.func143 (by kernel_rfl) (afun_of rfl ?_)
 refine gx hA 1 ?_
 refine gs (gr (rn hA 1 ?_))
 obtain⟨a3,a5,hc2⟩:∃(a3:Int),a3=(sumA A (stR A) 4294967295 t)∧Real Tryz.prog 166 [.int .u32 4294967295,.str t] (.int .u32 a3):=⟨_,rfl,by exact r_spec_SumMore A hA 4294967295 t (by assumption)⟩
 refine cvw hc2 (.inr rfl) ?_
 refine rz hA 1 ?_
 refine rt (gt ?_)
 show _=(PV.int .u32 a3)
 exact congrArg (PV.int .u32) a5.symm
theorem r_spec_l02Four (A:Alg)(hA:A=std)(x:Int):Real Tryz.prog 142 [.int .u32 x] (.str (fourA A x)):=by
 refine real_args (args':=[.int .u32 x]) (by rfl) ?_
 refine real tyOk Tryz.func142 (by kernel_rfl) (afun_of rfl ?_)
 refine gx hA 1 ?_
 refine gs (gr (rn hA 1 ?_))
 obtain⟨n1,hn1⟩:=nm (Int.fdiv x (2 ^ Int.toNat 24):Int)
 refine ops_ext rfl (ext_shr rfl rfl rfl (by decide) (by decide) hn1) ?_
 refine rn hA 2 ?_
 obtain⟨n2,hn2⟩:=nm (Int.fdiv x (2 ^ Int.toNat 16):Int)
 refine ops_ext rfl (ext_shr rfl rfl rfl (by decide) (by decide) hn2) ?_
 refine rn hA 2 ?_
 obtain⟨n3,hn3⟩:=nm (Int.fdiv x (2 ^ Int.toNat 8):Int)
 refine ops_ext rfl (ext_shr rfl rfl rfl (by decide) (by decide) hn3) ?_
 refine rn hA 3 ?_
 obtain⟨r4,hr4⟩:=nm ([[.int .u8 (A.cnv .u8 n1)],[.int .u8 (A.cnv .u8 n2)],[.int .u8 (A.cnv .u8 n3)],[.int .u8 (A.cnv .u8 x)]]:RR)
 have er4:r4=List.map eU8 ([(A.cnv .u8 n1),(A.cnv .u8 n2),(A.cnv .u8 n3),(A.cnv .u8 x)]:List Int):=by rw[hr4];rfl
 have lr4:=rlen_map hA er4
 refine ops_ext rfl (ext_lit rfl rfl rfl rfl rfl rfl rfl hr4) ?_
 obtain⟨s5,hs5⟩:=nm (strOfNums ([(A.cnv .u8 n1),(A.cnv .u8 n2),(A.cnv .u8 n3),(A.cnv .u8 x)]:List Int):ByteArray)
 have zs5:ByteArray.size s5=List.length ([(A.cnv .u8 n1),(A.cnv .u8 n2),(A.cnv .u8 n3),(A.cnv .u8 x)]:List Int):=by rw[hs5];exact strN_size _
 refine ops_step rfl rfl (cnv_arr rfl rfl rfl rfl rfl er4 hs5) ?_
 refine rz hA 1 ?_
 refine rt (gt ?_)
 refine congrArg PV.str ?_
 subst hs5 hn3 hn2 hn1
 rfl
theorem r_spec_Sealed (A:Alg)(hA:A=std)(t:ByteArray)(hz:ByteArray.size t≤1048576):Real Tryz.prog 122 [.str t] (.tup [.str (sealedA A (stR A) t),.bool (sealedB t)]):=by
 refine real_args (args':=[.str t]) (by rfl) ?_
 refine real tyOk Tryz.func122 (by kernel_rfl) (afun_of rfl ?_)
 refine gx hA 2 ?_
 refine gs (gx hA 3 ?_)
 refine gc (fun c1=> ?_) (fun c1=> ?_)
 ·
  have ec1:20000 < (A.slen t):=gtr_t hA c1
  refine gx hA 2 ?_
  refine rt (gt ?_)
  show _=PV.tup [.str (ByteArray.mk #[]),.bool false]
  have zt:=slen_eq hA t
  have E:sealedB t=false:=by unfold sealedB;rw[decide_eq_true (show 20000 < (t.size:Int) by omega)];rfl
  have E2:sealedA A (stR A) t=ByteArray.mk #[]:=by unfold sealedA;rw[if_pos (show 20000 < (t.size:Int) by omega)]
  rw[E,E2]
 have ec1:(A.slen t)≤20000:=gtr_f hA c1
 refine gk (gs (gr (rn hA 2 ?_)))
 obtain⟨a0,a4,hc3⟩:∃(a0:Int),a0=(sumA A (stR A) 4294967295 t)∧Real Tryz.prog 143 [.str t] (.int .u32 a0):=⟨_,rfl,by exact r_spec_SumOf A hA t (by assumption)⟩
 refine cvw hc3 (.inr rfl) ?_
 obtain⟨a2,a6,hc5⟩:∃(a2:ByteArray),a2=(fourA A a0)∧Real Tryz.prog 142 [.int .u32 a0] (.str a2):=⟨_,rfl,by exact r_spec_l02Four A hA a0⟩
 refine cvw hc5 (.inr rfl) ?_
 obtain⟨s6,hs6⟩:=nm (t++a2:ByteArray)
 have zs6:ByteArray.size s6=ByteArray.size t+ByteArray.size a2:=by rw[hs6];exact ByteArray.size_append
 have bs6:ByteArray.size t+ByteArray.size a2≤140737488355328:=by
  have h4:ByteArray.size a2=4:=by rw[a6];first | exact seal_size _ _ _ | exact four_size _ _
  omega
 refine ops_step rfl rfl (str_add rfl rfl rfl hs6 bs6) ?_
 refine rz hA 2 ?_
 refine rt (gt ?_)
 show _=PV.tup [.str s6,.bool true]
 have zt:=slen_eq hA t
 have E:sealedB t=true:=by unfold sealedB;rw[decide_eq_false (show ¬ 20000 < (t.size:Int) by omega)];rfl
 have E2:sealedA A (stR A) t=s6:=by unfold sealedA;rw[if_neg (show ¬ 20000 < (t.size:Int) by omega),hs6];subst a6 a4;rfl
 rw[E,E2]
end Go.Av
