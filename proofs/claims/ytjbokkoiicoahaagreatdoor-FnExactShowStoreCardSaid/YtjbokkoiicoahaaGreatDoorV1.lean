/- Walks: sz of stores. -/
import Derived.Test.YtjbokkoiicoahaaGreatDoorTy
namespace Go.Av
open Go Go.Proofs
set_option maxRecDepth 100000
set_option maxHeartbeats 4000000
set_option linter.unusedVariables false
set_option linter.unusedSimpArgs false
def S46_1 (p0:RR)(p1:Int)(p2:Int):St:={sl:=[.sl 1 p0,.ii p1,.bad,.bad,.bad,.ii p2,.bad,.bad,.bad,.bad,.bad,.bad,.bad,.bad,.bad,.bad,.bad,.bad,.bad,.bad,.bad,.bad,.bad,.bad,.bad,.bad,.bad,.bad],bl:=[]}
theorem r_laws_szStringS (A:Alg)(hA:A=std)(xs:List ByteArray)(n:Int)(h1:0≤n)(h2:n≤1048576)(hk:∀ k∈zsStringS xs,(k:Int)≤9223372036854775807):Real Tryz.prog 46 [.sl 1 (List.map eString xs),.ii n] (.ii (chain n (zsStringS xs))):=by
 obtain⟨a0,a6⟩:=nm (xs.map eString)
 have e3:=rlen_map hA a6
 refine real_args (args':=[.sl 1 a0,.ii n]) (by subst a6;rfl) ?_
 have hlen:(List.length xs:Int)≤9223372036854775807:=hk _ (by simp[zsStringS])
 refine real tyOk Tryz.func46 (by kernel_rfl) (afun_of rfl ?_)
 refine gx hA 1 ?_
 refine gx hA 5 ?_
 refine gs (gs ?_)
 have w0:A.num .sub .i64 n (A.rlen a0)=n - (List.length xs:Int):=by
  rw[e3];exact sub_i64 hA (by omega) (by omega)
 refine gy hA 2 ?_
 refine gc (fun c1=> ?_) (fun c1=> ?_)
 ·
  have ec1:(A.num .sub .i64 n (A.rlen a0)) < 0:=lss_t hA c1
  refine gx hA 1 ?_
  refine rt (gt ?_)
  refine congrArg (PV.int .i64) ?_
  rw[zsStringS,chain_cons,if_pos (by omega)]
 have ec1:0≤(A.num .sub .i64 n (A.rlen a0)):=lss_f hA c1
 refine gk (gs (gx hA 1 ?_))
 refine go_block ?_
 refine go_loopE (fun σ m=>∃(i:Nat) (L:Int) (n5:Int),σ=(S46_1 a0 L n5)∧(n5=(i:Int)∧i≤List.length xs∧0≤L∧L≤1048576∧L=chain (n - (List.length xs:Int)) ((xs.take i).flatMap zsString))∧m=List.length xs - i) _ [] [0,1,5] [] (S46_1 a0 (A.num .sub .i64 n (A.rlen a0)) 0) rfl (by cbv) ⟨0,(A.num .sub .i64 n (A.rlen a0)),0,rfl,?_,rfl⟩ (fun σ m hI=> ?_)
 ·
  exact⟨rfl,Nat.zero_le _,by omega,by omega,w0⟩
 obtain⟨i,L,n5,rfl,⟨hn5,hi,hL0,hL1,hL⟩,rfl⟩:=hI
 refine gs (gx hA 4 ?_)
 refine gc (fun c2=> ?_) (fun c2=> ?_)
 ·
  have ec2:n5 < (A.rlen a0):=lss_t hA c2
  refine gk (gs ?_)
  refine go_block ?_
  refine gs (gr (rn hA 3 ?_))
  have i0:(0:Int)≤n5:=by
   omega
  have g7:(Int.toNat n5) < List.length xs:=by
   omega
  obtain⟨x3,hx3⟩:∃ x,(xs)[(Int.toNat n5)]? =some x:=⟨_,List.getElem?_eq_getElem g7⟩
  have g8:=List.mem_of_getElem? hx3
  have g9:a0[(Int.toNat n5)]? =some [.str x3]:=by
   exact map_at eString a6 hx3
  have f0:xs[i]? =some x3:=by
   have h:=hx3;rw[hn5] at h;exact h
  have hkx:=fun(k:Nat) h=>hk k (List.mem_cons_of_mem _ (List.mem_flatMap.2 ⟨_,g8,h⟩))
  refine ops_step rfl rfl (idx_sl rfl rfl rfl rfl rfl i0 rfl g9) ?_
  refine rz hA 4 ?_
  refine gs ?_
  have hb1:((ByteArray.size x3:Nat):Int)≤9223372036854775807:=hkx _ (by simp[zsString])
  have w1:(A.num .sub .i64 L (A.slen x3))=L - (ByteArray.size x3:Int):=by
   rw[slen_eq hA x3];exact sub_i64 hA (by omega) (by omega)
  refine gy hA 2 ?_
  refine gc (fun c4=> ?_) (fun c4=> ?_)
  ·
   have ec4:(A.num .sub .i64 L (A.slen x3)) < 0:=lss_t hA c4
   refine gx hA 1 ?_
   refine rt (gt ?_)
   refine congrArg (PV.int .i64) ?_
   rw[zsStringS,chain_cons,if_neg (by omega),flat_split zsString xs (i+1),take_flat zsString xs f0,List.append_assoc,chain_sub hL hL0]
   exact chain_strN w1 ec4
  have ec4:0≤(A.num .sub .i64 L (A.slen x3)):=lss_f hA c4
  refine gk (gy hA 3 ?_)
  refine⟨(S46_1 a0 (A.num .sub .i64 L (A.slen x3)) (A.num .add .i64 n5 1)),List.length xs - (i+1),?_,by cbv,i+1,(A.num .sub .i64 L (A.slen x3)),(A.num .add .i64 n5 1),rfl,?_,rfl⟩
  ·
   omega
  refine⟨by rw[add_i64 hA (by omega) (by omega)];omega,by omega,by omega,by omega,?_⟩
  rw[take_flat zsString xs f0,chain_sub hL hL0]
  exact(chain_str (l:=[]) w1 ec4).symm
 have ec2:(A.rlen a0)≤n5:=lss_f hA c2
 refine go_exit ⟨fun _=> ?_,fun h=>absurd rfl h⟩
 refine gx hA 2 ?_
 refine rt (gt ?_)
 refine congrArg (PV.int .i64) ?_
 rw[zsStringS,chain_cons,if_neg (by omega),hL,List.take_of_length_le (by omega)]
theorem r_laws_szWrite (A:Alg)(hA:A=std)(x:GWrite)(n:Int)(h1:0≤n)(h2:n≤1048576)(hk:∀ k∈zsWrite x,(k:Int)≤9223372036854775807):Real Tryz.prog 80 [.agg (eWrite x),.ii n] (.ii (chain n (zsWrite x))):=by
 obtain⟨m0,a4⟩:=x
 refine real_args (args':=[.agg [.ii m0,.str a4],.ii n]) (by rfl) ?_
 have hk0:(ByteArray.size a4:Int)≤9223372036854775807:=hk _ (by simp[zsWrite])
 refine real tyOk Tryz.func80 (by kernel_rfl) (afun_of rfl ?_)
 refine gx hA 2 ?_
 refine gx hA 6 ?_
 refine gs (gs ?_)
 have w0:(A.num .sub .i64 n (A.slen a4))=n - (ByteArray.size a4:Int):=by
  rw[slen_eq hA a4];exact sub_i64 hA (by omega) (by omega)
 refine gy hA 2 ?_
 refine gc (fun c1=> ?_) (fun c1=> ?_)
 ·
  have ec1:(A.num .sub .i64 n (A.slen a4)) < 0:=lss_t hA c1
  refine gx hA 1 ?_
  refine rt (gt ?_)
  show PV.int _ _=PV.int _ _
  refine congrArg (PV.int .i64) ?_
  simp only[zsWrite]
  exact chain_strN w0 ec1
 have ec1:0≤(A.num .sub .i64 n (A.slen a4)):=lss_f hA c1
 refine gk (gx hA 2 ?_)
 refine rt (gt ?_)
 show _=(PV.int .i64 (A.num .sub .i64 n (A.slen a4)))
 show PV.int _ _=PV.int _ _
 refine congrArg (PV.int .i64) ?_
 simp only[zsWrite]
 rw[chain_str w0 ec1]
 rfl
def S47_1 (p0:RR)(p1:Int)(p2:Int):St:={sl:=[.sl 2 p0,.ii p1,.bad,.bad,.bad,.ii p2,.bad,.bad,.bad,.bad,.bad,.bad,.bad,.bad,.bad,.bad,.bad,.bad,.bad,.bad,.bad,.bad,.bad,.bad,.bad,.bad,.bad],bl:=[]}
theorem r_laws_szWriteS (A:Alg)(hA:A=std)(xs:List GWrite)(n:Int)(h1:0≤n)(h2:n≤1048576)(hk:∀ k∈zsWriteS xs,(k:Int)≤9223372036854775807):Real Tryz.prog 47 [.sl 2 (List.map eWrite xs),.ii n] (.ii (chain n (zsWriteS xs))):=by
 obtain⟨a0,a6⟩:=nm (xs.map eWrite)
 have e3:=rlen_map hA a6
 refine real_args (args':=[.sl 2 a0,.ii n]) (by subst a6;rfl) ?_
 have hlen:(List.length xs:Int)≤9223372036854775807:=hk _ (by simp[zsWriteS])
 refine real tyOk Tryz.func47 (by kernel_rfl) (afun_of rfl ?_)
 refine gx hA 1 ?_
 refine gx hA 5 ?_
 refine gs (gs ?_)
 have w0:A.num .sub .i64 n (A.rlen a0)=n - (List.length xs:Int):=by
  rw[e3];exact sub_i64 hA (by omega) (by omega)
 refine gy hA 2 ?_
 refine gc (fun c1=> ?_) (fun c1=> ?_)
 ·
  have ec1:(A.num .sub .i64 n (A.rlen a0)) < 0:=lss_t hA c1
  refine gx hA 1 ?_
  refine rt (gt ?_)
  refine congrArg (PV.int .i64) ?_
  rw[zsWriteS,chain_cons,if_pos (by omega)]
 have ec1:0≤(A.num .sub .i64 n (A.rlen a0)):=lss_f hA c1
 refine gk (gs (gx hA 1 ?_))
 refine go_block ?_
 refine go_loopE (fun σ m=>∃(i:Nat) (L:Int) (n5:Int),σ=(S47_1 a0 L n5)∧(n5=(i:Int)∧i≤List.length xs∧0≤L∧L≤1048576∧L=chain (n - (List.length xs:Int)) ((xs.take i).flatMap zsWrite))∧m=List.length xs - i) _ [] [0,1,5] [] (S47_1 a0 (A.num .sub .i64 n (A.rlen a0)) 0) rfl (by cbv) ⟨0,(A.num .sub .i64 n (A.rlen a0)),0,rfl,?_,rfl⟩ (fun σ m hI=> ?_)
 ·
  exact⟨rfl,Nat.zero_le _,by omega,by omega,w0⟩
 obtain⟨i,L,n5,rfl,⟨hn5,hi,hL0,hL1,hL⟩,rfl⟩:=hI
 refine gs (gx hA 4 ?_)
 refine gc (fun c2=> ?_) (fun c2=> ?_)
 ·
  have ec2:n5 < (A.rlen a0):=lss_t hA c2
  refine gk (gs ?_)
  refine go_block ?_
  refine gs (gr (rn hA 2 ?_))
  have i0:(0:Int)≤n5:=by
   omega
  have g7:(Int.toNat n5) < List.length xs:=by
   omega
  obtain⟨x3,hx3⟩:∃ x,(xs)[(Int.toNat n5)]? =some x:=⟨_,List.getElem?_eq_getElem g7⟩
  have g8:=List.mem_of_getElem? hx3
  obtain⟨i2,f4⟩:=x3
  have g9:a0[(Int.toNat n5)]? =some [.ii i2,.str f4]:=by
   exact map_at eWrite a6 hx3
  have f0:xs[i]? =some (⟨i2,f4⟩:GWrite):=by
   have h:=hx3;rw[hn5] at h;exact h
  have hkx:=fun(k:Nat) h=>hk k (List.mem_cons_of_mem _ (List.mem_flatMap.2 ⟨_,g8,h⟩))
  refine ops_step rfl rfl (idx_sl rfl rfl rfl rfl rfl i0 rfl g9) ?_
  refine rn hA 2 ?_
  obtain⟨a2,b2,hc5⟩:∃(a2:Int),a2=(chain L (zsWrite (⟨i2,f4⟩:GWrite)))∧Real Tryz.prog 80 [.agg [.ii i2,.str f4],.ii L] (.ii a2):=⟨_,rfl,by exact r_laws_szWrite A hA (⟨i2,f4⟩:GWrite) L (by omega) (by omega) hkx⟩
  refine cvw hc5 (.inr rfl) ?_
  have j7:=chain_bd b2 (by omega)
  refine rz hA 1 ?_
  refine gs ?_
  skip
  refine gy hA 2 ?_
  refine gc (fun c6=> ?_) (fun c6=> ?_)
  ·
   have ec6:a2 < 0:=lss_t hA c6
   refine gx hA 1 ?_
   refine rt (gt ?_)
   refine congrArg (PV.int .i64) ?_
   rw[zsWriteS,chain_cons,if_neg (by omega),flat_split zsWrite xs (i+1),take_flat zsWrite xs f0,List.append_assoc,chain_sub hL hL0]
   exact chain_subN (by omega) b2 ec6
  have ec6:0≤a2:=lss_f hA c6
  refine gk (gy hA 3 ?_)
  refine⟨(S47_1 a0 a2 (A.num .add .i64 n5 1)),List.length xs - (i+1),?_,by cbv,i+1,a2,(A.num .add .i64 n5 1),rfl,?_,rfl⟩
  ·
   omega
  refine⟨by rw[add_i64 hA (by omega) (by omega)];omega,by omega,by omega,by omega,?_⟩
  rw[take_flat zsWrite xs f0,chain_sub hL hL0]
  exact b2
 have ec2:(A.rlen a0)≤n5:=lss_f hA c2
 refine go_exit ⟨fun _=> ?_,fun h=>absurd rfl h⟩
 refine gx hA 2 ?_
 refine rt (gt ?_)
 refine congrArg (PV.int .i64) ?_
 rw[zsWriteS,chain_cons,if_neg (by omega),hL,List.take_of_length_le (by omega)]
theorem r_laws_szDisk (A:Alg)(hA:A=std)(x:GDisk)(n:Int)(h1:0≤n)(h2:n≤1048576)(hk:∀ k∈zsDisk x,(k:Int)≤9223372036854775807):Real Tryz.prog 25 [.agg (eDisk x),.ii n] (.ii (chain n (zsDisk x))):=by
 obtain⟨g2,i5⟩:=x
 obtain⟨g6,e9⟩:=nm (g2.map eString)
 have k6:=rlen_map hA e9
 obtain⟨i8,f6⟩:=nm (i5.map eWrite)
 have l4:=rlen_map hA f6
 refine real_args (args':=[.agg [.sl 1 g6,.sl 2 i8],.ii n]) (by subst e9 f6;rfl) ?_
 refine real tyOk Tryz.func25 (by kernel_rfl) (afun_of rfl ?_)
 refine gx hA 2 ?_
 refine gs (gr (rn hA 3 ?_))
 obtain⟨a1,a3,hc2⟩:∃(a1:Int),a1=(chain n (zsStringS g2))∧Real Tryz.prog 46 [.sl 1 g6,.ii n] (.ii a1):=⟨_,rfl,by subst e9;exact r_laws_szStringS A hA g2 n (by omega) (by omega) (fun k h=>hk k (by simp only[zsDisk,List.mem_append];simp only[h,true_or,or_true]))⟩
 refine cvw hc2 (.inr rfl) ?_
 have j0:=chain_bd a3 (by omega)
 refine rz hA 1 ?_
 refine gs (gx hA 2 ?_)
 refine gc (fun c3=> ?_) (fun c3=> ?_)
 ·
  have ec3:a1 < 0:=lss_t hA c3
  refine gx hA 1 ?_
  refine rt (gt ?_)
  show PV.int _ _=PV.int _ _
  refine congrArg (PV.int .i64) ?_
  simp only[zsDisk]
  exact chain_subN (by omega) a3 ec3
 have ec3:0≤a1:=lss_f hA c3
 refine gk (gs (gr (rn hA 3 ?_)))
 obtain⟨a7,b6,hc5⟩:∃(a7:Int),a7=(chain a1 (zsWriteS i5))∧Real Tryz.prog 47 [.sl 2 i8,.ii a1] (.ii a7):=⟨_,rfl,by subst f6;exact r_laws_szWriteS A hA i5 a1 (by omega) (by omega) (fun k h=>hk k (by simp only[zsDisk,List.mem_append];simp only[h,true_or,or_true]))⟩
 refine cvw hc5 (.inr rfl) ?_
 have j6:=chain_bd b6 (by omega)
 refine rz hA 1 ?_
 refine gs (gx hA 2 ?_)
 refine gc (fun c6=> ?_) (fun c6=> ?_)
 ·
  have ec6:a7 < 0:=lss_t hA c6
  refine gx hA 1 ?_
  refine rt (gt ?_)
  show PV.int _ _=PV.int _ _
  refine congrArg (PV.int .i64) ?_
  simp only[zsDisk]
  rw[chain_sub a3 ec3]
  exact chain_subN (by omega) b6 ec6
 have ec6:0≤a7:=lss_f hA c6
 refine gk (gx hA 2 ?_)
 refine rt (gt ?_)
 show PV.int _ _=PV.int _ _
 refine congrArg (PV.int .i64) ?_
 simp only[zsDisk]
 rw[chain_sub a3 ec3]
 rw[chain_sub b6 ec6]
 rfl
theorem r_laws_szRec (A:Alg)(hA:A=std)(x:GRec)(n:Int)(h1:0≤n)(h2:n≤1048576)(hk:∀ k∈zsRec x,(k:Int)≤9223372036854775807):Real Tryz.prog 141 [.agg (eRec x),.ii n] (.ii (chain n (zsRec x))):=by
 obtain⟨k8,k2,l6,k9,k4,a5,a9,a4⟩:=x
 refine real_args (args':=[.agg [.ii k8,.ii k2,.ii l6,.ii k9,.ii k4,.str a5,.str a9,.str a4],.ii n]) (by rfl) ?_
 have hk0:(ByteArray.size a5:Int)≤9223372036854775807:=hk _ (by simp[zsRec])
 have hk1:(ByteArray.size a9:Int)≤9223372036854775807:=hk _ (by simp[zsRec])
 have hk2:(ByteArray.size a4:Int)≤9223372036854775807:=hk _ (by simp[zsRec])
 refine real tyOk Tryz.func141 (by kernel_rfl) (afun_of rfl ?_)
 refine gx hA 2 ?_
 refine gx hA 6 ?_
 refine gs (gs ?_)
 have w0:(A.num .sub .i64 n (A.slen a5))=n - (ByteArray.size a5:Int):=by
  rw[slen_eq hA a5];exact sub_i64 hA (by omega) (by omega)
 refine gy hA 2 ?_
 refine gc (fun c1=> ?_) (fun c1=> ?_)
 ·
  have ec1:(A.num .sub .i64 n (A.slen a5)) < 0:=lss_t hA c1
  refine gx hA 1 ?_
  refine rt (gt ?_)
  show PV.int _ _=PV.int _ _
  refine congrArg (PV.int .i64) ?_
  simp only[zsRec]
  exact chain_strN w0 ec1
 have ec1:0≤(A.num .sub .i64 n (A.slen a5)):=lss_f hA c1
 refine gk (gx hA 6 ?_)
 refine gs (gs ?_)
 have w1:(A.num .sub .i64 (A.num .sub .i64 n (A.slen a5)) (A.slen a9))=(A.num .sub .i64 n (A.slen a5)) - (ByteArray.size a9:Int):=by
  rw[slen_eq hA a9];exact sub_i64 hA (by omega) (by omega)
 refine gy hA 2 ?_
 refine gc (fun c2=> ?_) (fun c2=> ?_)
 ·
  have ec2:(A.num .sub .i64 (A.num .sub .i64 n (A.slen a5)) (A.slen a9)) < 0:=lss_t hA c2
  refine gx hA 1 ?_
  refine rt (gt ?_)
  show PV.int _ _=PV.int _ _
  refine congrArg (PV.int .i64) ?_
  simp only[zsRec]
  rw[chain_str w0 ec1]
  exact chain_strN w1 ec2
 have ec2:0≤(A.num .sub .i64 (A.num .sub .i64 n (A.slen a5)) (A.slen a9)):=lss_f hA c2
 refine gk (gx hA 6 ?_)
 refine gs (gs ?_)
 have w2:(A.num .sub .i64 (A.num .sub .i64 (A.num .sub .i64 n (A.slen a5)) (A.slen a9)) (A.slen a4))=(A.num .sub .i64 (A.num .sub .i64 n (A.slen a5)) (A.slen a9)) - (ByteArray.size a4:Int):=by
  rw[slen_eq hA a4];exact sub_i64 hA (by omega) (by omega)
 refine gy hA 2 ?_
 refine gc (fun c3=> ?_) (fun c3=> ?_)
 ·
  have ec3:(A.num .sub .i64 (A.num .sub .i64 (A.num .sub .i64 n (A.slen a5)) (A.slen a9)) (A.slen a4)) < 0:=lss_t hA c3
  refine gx hA 1 ?_
  refine rt (gt ?_)
  show PV.int _ _=PV.int _ _
  refine congrArg (PV.int .i64) ?_
  simp only[zsRec]
  rw[chain_str w0 ec1]
  rw[chain_str w1 ec2]
  exact chain_strN w2 ec3
 have ec3:0≤(A.num .sub .i64 (A.num .sub .i64 (A.num .sub .i64 n (A.slen a5)) (A.slen a9)) (A.slen a4)):=lss_f hA c3
 refine gk (gx hA 2 ?_)
 refine rt (gt ?_)
 show _=(PV.int .i64 (A.num .sub .i64 (A.num .sub .i64 (A.num .sub .i64 n (A.slen a5)) (A.slen a9)) (A.slen a4)))
 show PV.int _ _=PV.int _ _
 refine congrArg (PV.int .i64) ?_
 simp only[zsRec]
 rw[chain_str w0 ec1]
 rw[chain_str w1 ec2]
 rw[chain_str w2 ec3]
 rfl
theorem r_laws_szItem (A:Alg)(hA:A=std)(x:GItem)(n:Int)(h1:0≤n)(h2:n≤1048576)(hk:∀ k∈zsItem x,(k:Int)≤9223372036854775807):Real Tryz.prog 116 [.agg (eItem x),.ii n] (.ii (chain n (zsItem x))):=by
 obtain⟨l1,⟨e1,d6,f1,e4,d5,e5,e2,e6⟩⟩:=x
 refine real_args (args':=[.agg [.ii l1,.ii e1,.ii d6,.ii f1,.ii e4,.ii d5,.str e5,.str e2,.str e6],.ii n]) (by rfl) ?_
 refine real tyOk Tryz.func116 (by kernel_rfl) (afun_of rfl ?_)
 refine gx hA 2 ?_
 refine gs (gr (rn hA 3 ?_))
 obtain⟨a1,a3,hc2⟩:∃(a1:Int),a1=(chain n (zsRec (⟨e1,d6,f1,e4,d5,e5,e2,e6⟩:GRec)))∧Real Tryz.prog 141 [.agg [.ii e1,.ii d6,.ii f1,.ii e4,.ii d5,.str e5,.str e2,.str e6],.ii n] (.ii a1):=⟨_,rfl,by exact r_laws_szRec A hA (⟨e1,d6,f1,e4,d5,e5,e2,e6⟩:GRec) n (by omega) (by omega) (fun k h=>hk k (by simp only[zsItem,List.mem_append];simp only[h,true_or,or_true]))⟩
 refine cvw hc2 (.inr rfl) ?_
 have j0:=chain_bd a3 (by omega)
 refine rz hA 1 ?_
 refine gs (gx hA 2 ?_)
 refine gc (fun c3=> ?_) (fun c3=> ?_)
 ·
  have ec3:a1 < 0:=lss_t hA c3
  refine gx hA 1 ?_
  refine rt (gt ?_)
  show PV.int _ _=PV.int _ _
  refine congrArg (PV.int .i64) ?_
  simp only[zsItem]
  exact chain_subN (by omega) a3 ec3
 have ec3:0≤a1:=lss_f hA c3
 refine gk (gx hA 2 ?_)
 refine rt (gt ?_)
 show PV.int _ _=PV.int _ _
 refine congrArg (PV.int .i64) ?_
 simp only[zsItem]
 rw[chain_sub a3 ec3]
 rfl
def S81_1 (p0:RR)(p1:Int)(p2:Int):St:={sl:=[.sl 9 p0,.ii p1,.bad,.bad,.bad,.ii p2,.bad,.bad,.bad,.bad,.bad,.bad,.bad,.bad,.bad,.bad,.bad,.bad,.bad,.bad,.bad,.bad,.bad,.bad,.bad,.bad,.bad],bl:=[]}
theorem r_laws_szItemS (A:Alg)(hA:A=std)(xs:List GItem)(n:Int)(h1:0≤n)(h2:n≤1048576)(hk:∀ k∈zsItemS xs,(k:Int)≤9223372036854775807):Real Tryz.prog 81 [.sl 9 (List.map eItem xs),.ii n] (.ii (chain n (zsItemS xs))):=by
 obtain⟨a0,a6⟩:=nm (xs.map eItem)
 have e3:=rlen_map hA a6
 refine real_args (args':=[.sl 9 a0,.ii n]) (by subst a6;rfl) ?_
 have hlen:(List.length xs:Int)≤9223372036854775807:=hk _ (by simp[zsItemS])
 refine real tyOk Tryz.func81 (by kernel_rfl) (afun_of rfl ?_)
 refine gx hA 1 ?_
 refine gx hA 5 ?_
 refine gs (gs ?_)
 have w0:A.num .sub .i64 n (A.rlen a0)=n - (List.length xs:Int):=by
  rw[e3];exact sub_i64 hA (by omega) (by omega)
 refine gy hA 2 ?_
 refine gc (fun c1=> ?_) (fun c1=> ?_)
 ·
  have ec1:(A.num .sub .i64 n (A.rlen a0)) < 0:=lss_t hA c1
  refine gx hA 1 ?_
  refine rt (gt ?_)
  refine congrArg (PV.int .i64) ?_
  rw[zsItemS,chain_cons,if_pos (by omega)]
 have ec1:0≤(A.num .sub .i64 n (A.rlen a0)):=lss_f hA c1
 refine gk (gs (gx hA 1 ?_))
 refine go_block ?_
 refine go_loopE (fun σ m=>∃(i:Nat) (L:Int) (n5:Int),σ=(S81_1 a0 L n5)∧(n5=(i:Int)∧i≤List.length xs∧0≤L∧L≤1048576∧L=chain (n - (List.length xs:Int)) ((xs.take i).flatMap zsItem))∧m=List.length xs - i) _ [] [0,1,5] [] (S81_1 a0 (A.num .sub .i64 n (A.rlen a0)) 0) rfl (by cbv) ⟨0,(A.num .sub .i64 n (A.rlen a0)),0,rfl,?_,rfl⟩ (fun σ m hI=> ?_)
 ·
  exact⟨rfl,Nat.zero_le _,by omega,by omega,w0⟩
 obtain⟨i,L,n5,rfl,⟨hn5,hi,hL0,hL1,hL⟩,rfl⟩:=hI
 refine gs (gx hA 4 ?_)
 refine gc (fun c2=> ?_) (fun c2=> ?_)
 ·
  have ec2:n5 < (A.rlen a0):=lss_t hA c2
  refine gk (gs ?_)
  refine go_block ?_
  refine gs (gr (rn hA 2 ?_))
  have i0:(0:Int)≤n5:=by
   omega
  have g7:(Int.toNat n5) < List.length xs:=by
   omega
  obtain⟨x3,hx3⟩:∃ x,(xs)[(Int.toNat n5)]? =some x:=⟨_,List.getElem?_eq_getElem g7⟩
  have g8:=List.mem_of_getElem? hx3
  obtain⟨g3,⟨c5,b4,d1,c0,b3,b9,c7,b8⟩⟩:=x3
  have g9:a0[(Int.toNat n5)]? =some [.ii g3,.ii c5,.ii b4,.ii d1,.ii c0,.ii b3,.str b9,.str c7,.str b8]:=by
   exact map_at eItem a6 hx3
  have f0:xs[i]? =some (⟨g3,⟨c5,b4,d1,c0,b3,b9,c7,b8⟩⟩:GItem):=by
   have h:=hx3;rw[hn5] at h;exact h
  have hkx:=fun(k:Nat) h=>hk k (List.mem_cons_of_mem _ (List.mem_flatMap.2 ⟨_,g8,h⟩))
  refine ops_step rfl rfl (idx_sl rfl rfl rfl rfl rfl i0 rfl g9) ?_
  refine rn hA 2 ?_
  obtain⟨a2,b2,hc5⟩:∃(a2:Int),a2=(chain L (zsItem (⟨g3,⟨c5,b4,d1,c0,b3,b9,c7,b8⟩⟩:GItem)))∧Real Tryz.prog 116 [.agg [.ii g3,.ii c5,.ii b4,.ii d1,.ii c0,.ii b3,.str b9,.str c7,.str b8],.ii L] (.ii a2):=⟨_,rfl,by exact r_laws_szItem A hA (⟨g3,⟨c5,b4,d1,c0,b3,b9,c7,b8⟩⟩:GItem) L (by omega) (by omega) hkx⟩
  refine cvw hc5 (.inr rfl) ?_
  have j7:=chain_bd b2 (by omega)
  refine rz hA 1 ?_
  refine gs ?_
  skip
  refine gy hA 2 ?_
  refine gc (fun c6=> ?_) (fun c6=> ?_)
  ·
   have ec6:a2 < 0:=lss_t hA c6
   refine gx hA 1 ?_
   refine rt (gt ?_)
   refine congrArg (PV.int .i64) ?_
   rw[zsItemS,chain_cons,if_neg (by omega),flat_split zsItem xs (i+1),take_flat zsItem xs f0,List.append_assoc,chain_sub hL hL0]
   exact chain_subN (by omega) b2 ec6
  have ec6:0≤a2:=lss_f hA c6
  refine gk (gy hA 3 ?_)
  refine⟨(S81_1 a0 a2 (A.num .add .i64 n5 1)),List.length xs - (i+1),?_,by cbv,i+1,a2,(A.num .add .i64 n5 1),rfl,?_,rfl⟩
  ·
   omega
  refine⟨by rw[add_i64 hA (by omega) (by omega)];omega,by omega,by omega,by omega,?_⟩
  rw[take_flat zsItem xs f0,chain_sub hL hL0]
  exact b2
 have ec2:(A.rlen a0)≤n5:=lss_f hA c2
 refine go_exit ⟨fun _=> ?_,fun h=>absurd rfl h⟩
 refine gx hA 2 ?_
 refine rt (gt ?_)
 refine congrArg (PV.int .i64) ?_
 rw[zsItemS,chain_cons,if_neg (by omega),hL,List.take_of_length_le (by omega)]
theorem r_laws_szSeg (A:Alg)(hA:A=std)(x:GSeg)(n:Int)(h1:0≤n)(h2:n≤1048576)(hk:∀ k∈zsSeg x,(k:Int)≤9223372036854775807):Real Tryz.prog 48 [.agg (eSeg x),.ii n] (.ii (chain n (zsSeg x))):=by
 obtain⟨l9,l3,l7,i6⟩:=x
 obtain⟨i9,f9⟩:=nm (i6.map eItem)
 have l5:=rlen_map hA f9
 refine real_args (args':=[.agg [.ii l9,.ii l3,.ii l7,.sl 9 i9],.ii n]) (by subst f9;rfl) ?_
 refine real tyOk Tryz.func48 (by kernel_rfl) (afun_of rfl ?_)
 refine gx hA 2 ?_
 refine gs (gr (rn hA 3 ?_))
 obtain⟨a1,a3,hc2⟩:∃(a1:Int),a1=(chain n (zsItemS i6))∧Real Tryz.prog 81 [.sl 9 i9,.ii n] (.ii a1):=⟨_,rfl,by subst f9;exact r_laws_szItemS A hA i6 n (by omega) (by omega) (fun k h=>hk k (by simp only[zsSeg,List.mem_append];simp only[h,true_or,or_true]))⟩
 refine cvw hc2 (.inr rfl) ?_
 have j0:=chain_bd a3 (by omega)
 refine rz hA 1 ?_
 refine gs (gx hA 2 ?_)
 refine gc (fun c3=> ?_) (fun c3=> ?_)
 ·
  have ec3:a1 < 0:=lss_t hA c3
  refine gx hA 1 ?_
  refine rt (gt ?_)
  show PV.int _ _=PV.int _ _
  refine congrArg (PV.int .i64) ?_
  simp only[zsSeg]
  exact chain_subN (by omega) a3 ec3
 have ec3:0≤a1:=lss_f hA c3
 refine gk (gx hA 2 ?_)
 refine rt (gt ?_)
 show PV.int _ _=PV.int _ _
 refine congrArg (PV.int .i64) ?_
 simp only[zsSeg]
 rw[chain_sub a3 ec3]
 rfl
def S26_1 (p0:RR)(p1:Int)(p2:Int):St:={sl:=[.sl 4 p0,.ii p1,.bad,.bad,.bad,.ii p2,.bad,.bad,.bad,.bad,.bad,.bad,.bad,.bad,.bad,.bad,.bad,.bad,.bad,.bad,.bad,.bad,.bad,.bad,.bad,.bad,.bad],bl:=[]}
theorem r_laws_szSegS (A:Alg)(hA:A=std)(xs:List GSeg)(n:Int)(h1:0≤n)(h2:n≤1048576)(hk:∀ k∈zsSegS xs,(k:Int)≤9223372036854775807):Real Tryz.prog 26 [.sl 4 (List.map eSeg xs),.ii n] (.ii (chain n (zsSegS xs))):=by
 obtain⟨a0,a6⟩:=nm (xs.map eSeg)
 have e3:=rlen_map hA a6
 refine real_args (args':=[.sl 4 a0,.ii n]) (by subst a6;rfl) ?_
 have hlen:(List.length xs:Int)≤9223372036854775807:=hk _ (by simp[zsSegS])
 refine real tyOk Tryz.func26 (by kernel_rfl) (afun_of rfl ?_)
 refine gx hA 1 ?_
 refine gx hA 5 ?_
 refine gs (gs ?_)
 have w0:A.num .sub .i64 n (A.rlen a0)=n - (List.length xs:Int):=by
  rw[e3];exact sub_i64 hA (by omega) (by omega)
 refine gy hA 2 ?_
 refine gc (fun c1=> ?_) (fun c1=> ?_)
 ·
  have ec1:(A.num .sub .i64 n (A.rlen a0)) < 0:=lss_t hA c1
  refine gx hA 1 ?_
  refine rt (gt ?_)
  refine congrArg (PV.int .i64) ?_
  rw[zsSegS,chain_cons,if_pos (by omega)]
 have ec1:0≤(A.num .sub .i64 n (A.rlen a0)):=lss_f hA c1
 refine gk (gs (gx hA 1 ?_))
 refine go_block ?_
 refine go_loopE (fun σ m=>∃(i:Nat) (L:Int) (n5:Int),σ=(S26_1 a0 L n5)∧(n5=(i:Int)∧i≤List.length xs∧0≤L∧L≤1048576∧L=chain (n - (List.length xs:Int)) ((xs.take i).flatMap zsSeg))∧m=List.length xs - i) _ [] [0,1,5] [] (S26_1 a0 (A.num .sub .i64 n (A.rlen a0)) 0) rfl (by cbv) ⟨0,(A.num .sub .i64 n (A.rlen a0)),0,rfl,?_,rfl⟩ (fun σ m hI=> ?_)
 ·
  exact⟨rfl,Nat.zero_le _,by omega,by omega,w0⟩
 obtain⟨i,L,n5,rfl,⟨hn5,hi,hL0,hL1,hL⟩,rfl⟩:=hI
 refine gs (gx hA 4 ?_)
 refine gc (fun c2=> ?_) (fun c2=> ?_)
 ·
  have ec2:n5 < (A.rlen a0):=lss_t hA c2
  refine gk (gs ?_)
  refine go_block ?_
  refine gs (gr (rn hA 2 ?_))
  have i0:(0:Int)≤n5:=by
   omega
  have g7:(Int.toNat n5) < List.length xs:=by
   omega
  obtain⟨x3,hx3⟩:∃ x,(xs)[(Int.toNat n5)]? =some x:=⟨_,List.getElem?_eq_getElem g7⟩
  have g8:=List.mem_of_getElem? hx3
  obtain⟨i1,g0,g4,f5⟩:=x3
  obtain⟨i3,f2⟩:=nm (f5.map eItem)
  have l0:=rlen_map hA f2
  have g9:a0[(Int.toNat n5)]? =some [.ii i1,.ii g0,.ii g4,.sl 9 i3]:=by
   subst f2;exact map_at eSeg a6 hx3
  have f0:xs[i]? =some (⟨i1,g0,g4,f5⟩:GSeg):=by
   have h:=hx3;rw[hn5] at h;exact h
  have hkx:=fun(k:Nat) h=>hk k (List.mem_cons_of_mem _ (List.mem_flatMap.2 ⟨_,g8,h⟩))
  refine ops_step rfl rfl (idx_sl rfl rfl rfl rfl rfl i0 rfl g9) ?_
  refine rn hA 2 ?_
  obtain⟨a2,b2,hc5⟩:∃(a2:Int),a2=(chain L (zsSeg (⟨i1,g0,g4,f5⟩:GSeg)))∧Real Tryz.prog 48 [.agg [.ii i1,.ii g0,.ii g4,.sl 9 i3],.ii L] (.ii a2):=⟨_,rfl,by subst f2;exact r_laws_szSeg A hA (⟨i1,g0,g4,f5⟩:GSeg) L (by omega) (by omega) hkx⟩
  refine cvw hc5 (.inr rfl) ?_
  have j7:=chain_bd b2 (by omega)
  refine rz hA 1 ?_
  refine gs ?_
  skip
  refine gy hA 2 ?_
  refine gc (fun c6=> ?_) (fun c6=> ?_)
  ·
   have ec6:a2 < 0:=lss_t hA c6
   refine gx hA 1 ?_
   refine rt (gt ?_)
   refine congrArg (PV.int .i64) ?_
   rw[zsSegS,chain_cons,if_neg (by omega),flat_split zsSeg xs (i+1),take_flat zsSeg xs f0,List.append_assoc,chain_sub hL hL0]
   exact chain_subN (by omega) b2 ec6
  have ec6:0≤a2:=lss_f hA c6
  refine gk (gy hA 3 ?_)
  refine⟨(S26_1 a0 a2 (A.num .add .i64 n5 1)),List.length xs - (i+1),?_,by cbv,i+1,a2,(A.num .add .i64 n5 1),rfl,?_,rfl⟩
  ·
   omega
  refine⟨by rw[add_i64 hA (by omega) (by omega)];omega,by omega,by omega,by omega,?_⟩
  rw[take_flat zsSeg xs f0,chain_sub hL hL0]
  exact b2
 have ec2:(A.rlen a0)≤n5:=lss_f hA c2
 refine go_exit ⟨fun _=> ?_,fun h=>absurd rfl h⟩
 refine gx hA 2 ?_
 refine rt (gt ?_)
 refine congrArg (PV.int .i64) ?_
 rw[zsSegS,chain_cons,if_neg (by omega),hL,List.take_of_length_le (by omega)]
theorem r_laws_szLog (A:Alg)(hA:A=std)(x:GLog)(n:Int)(h1:0≤n)(h2:n≤1048576)(hk:∀ k∈zsLog x,(k:Int)≤9223372036854775807):Real Tryz.prog 9 [.agg (eLog x),.ii n] (.ii (chain n (zsLog x))):=by
 obtain⟨⟨d4,e8⟩,k7,j2,j8,j9,k3,j3⟩:=x
 obtain⟨e7,b7⟩:=nm (d4.map eString)
 have k0:=rlen_map hA b7
 obtain⟨f3,d3⟩:=nm (e8.map eWrite)
 have k1:=rlen_map hA d3
 obtain⟨j1,g1⟩:=nm (j2.map eSeg)
 have l8:=rlen_map hA g1
 refine real_args (args':=[.agg [.sl 1 e7,.sl 2 f3,.ii k7,.sl 4 j1,.ii j8,.ii j9,.ii k3,.ii j3],.ii n]) (by subst b7 d3 g1;rfl) ?_
 refine real tyOk Tryz.func9 (by kernel_rfl) (afun_of rfl ?_)
 refine gx hA 2 ?_
 refine gs (gr (rn hA 3 ?_))
 obtain⟨a1,a3,hc2⟩:∃(a1:Int),a1=(chain n (zsDisk (⟨d4,e8⟩:GDisk)))∧Real Tryz.prog 25 [.agg [.sl 1 e7,.sl 2 f3],.ii n] (.ii a1):=⟨_,rfl,by subst b7 d3;exact r_laws_szDisk A hA (⟨d4,e8⟩:GDisk) n (by omega) (by omega) (fun k h=>hk k (by simp only[zsLog,List.mem_append];simp only[h,true_or,or_true]))⟩
 refine cvw hc2 (.inr rfl) ?_
 have j0:=chain_bd a3 (by omega)
 refine rz hA 1 ?_
 refine gs (gx hA 2 ?_)
 refine gc (fun c3=> ?_) (fun c3=> ?_)
 ·
  have ec3:a1 < 0:=lss_t hA c3
  refine gx hA 1 ?_
  refine rt (gt ?_)
  show PV.int _ _=PV.int _ _
  refine congrArg (PV.int .i64) ?_
  simp only[zsLog]
  exact chain_subN (by omega) a3 ec3
 have ec3:0≤a1:=lss_f hA c3
 refine gk (gs (gr (rn hA 3 ?_)))
 obtain⟨a7,b6,hc5⟩:∃(a7:Int),a7=(chain a1 (zsSegS j2))∧Real Tryz.prog 26 [.sl 4 j1,.ii a1] (.ii a7):=⟨_,rfl,by subst g1;exact r_laws_szSegS A hA j2 a1 (by omega) (by omega) (fun k h=>hk k (by simp only[zsLog,List.mem_append];simp only[h,true_or,or_true]))⟩
 refine cvw hc5 (.inr rfl) ?_
 have j6:=chain_bd b6 (by omega)
 refine rz hA 1 ?_
 refine gs (gx hA 2 ?_)
 refine gc (fun c6=> ?_) (fun c6=> ?_)
 ·
  have ec6:a7 < 0:=lss_t hA c6
  refine gx hA 1 ?_
  refine rt (gt ?_)
  show PV.int _ _=PV.int _ _
  refine congrArg (PV.int .i64) ?_
  simp only[zsLog]
  rw[chain_sub a3 ec3]
  exact chain_subN (by omega) b6 ec6
 have ec6:0≤a7:=lss_f hA c6
 refine gk (gx hA 2 ?_)
 refine rt (gt ?_)
 show PV.int _ _=PV.int _ _
 refine congrArg (PV.int .i64) ?_
 simp only[zsLog]
 rw[chain_sub a3 ec3]
 rw[chain_sub b6 ec6]
 rfl
theorem r_laws_szIntS (A:Alg)(hA:A=std)(xs:List Int)(n:Int)(h1:0≤n)(h2:n≤1048576)(hk:∀ k∈zsIntS xs,(k:Int)≤9223372036854775807):Real Tryz.prog 10 [.sl 1 (List.map eInt xs),.ii n] (.ii (chain n (zsIntS xs))):=by
 obtain⟨a0,a6⟩:=nm (xs.map eInt)
 have e3:=rlen_map hA a6
 refine real_args (args':=[.sl 1 a0,.ii n]) (by subst a6;rfl) ?_
 have hlen:(List.length xs:Int)≤9223372036854775807:=hk _ (by simp[zsIntS])
 refine real tyOk Tryz.func10 (by kernel_rfl) (afun_of rfl ?_)
 refine gx hA 1 ?_
 refine gx hA 5 ?_
 refine gs (gs ?_)
 have w0:A.num .sub .i64 n (A.rlen a0)=n - (List.length xs:Int):=by
  rw[e3];exact sub_i64 hA (by omega) (by omega)
 refine gy hA 2 ?_
 refine gc (fun c1=> ?_) (fun c1=> ?_)
 ·
  have ec1:(A.num .sub .i64 n (A.rlen a0)) < 0:=lss_t hA c1
  refine gx hA 1 ?_
  refine rt (gt ?_)
  refine congrArg (PV.int .i64) ?_
  rw[zsIntS,chain_cons,if_pos (by omega)]
 have ec1:0≤(A.num .sub .i64 n (A.rlen a0)):=lss_f hA c1
 refine gk (gx hA 2 ?_)
 refine rt (gt ?_)
 show _=(PV.int .i64 (A.num .sub .i64 n (A.rlen a0)))
 refine congrArg (PV.int .i64) ?_
 rw[zsIntS,chain_cons,if_neg (by omega),w0];rfl
theorem r_laws_szStore (A:Alg)(hA:A=std)(x:GStore)(n:Int)(h1:0≤n)(h2:n≤1048576)(hk:∀ k∈zsStore x,(k:Int)≤9223372036854775807):Real Tryz.prog 4 [.agg (eStore x),.ii n] (.ii (chain n (zsStore x))):=by
 obtain⟨⟨⟨b5,d0⟩,e0,f7,c8,c9,d7,b1⟩,i4⟩:=x
 obtain⟨d2,a8⟩:=nm (b5.map eString)
 have j4:=rlen_map hA a8
 obtain⟨d8,b0⟩:=nm (d0.map eWrite)
 have j5:=rlen_map hA b0
 obtain⟨g5,d9⟩:=nm (f7.map eSeg)
 have k5:=rlen_map hA d9
 obtain⟨i7,f8⟩:=nm (i4.map eInt)
 have l2:=rlen_map hA f8
 refine real_args (args':=[.agg [.sl 1 d2,.sl 2 d8,.ii e0,.sl 4 g5,.ii c8,.ii c9,.ii d7,.ii b1,.sl 1 i7],.ii n]) (by subst a8 b0 d9 f8;rfl) ?_
 refine real tyOk Tryz.func4 (by kernel_rfl) (afun_of rfl ?_)
 refine gx hA 2 ?_
 refine gs (gr (rn hA 3 ?_))
 obtain⟨a1,a3,hc2⟩:∃(a1:Int),a1=(chain n (zsLog (⟨⟨b5,d0⟩,e0,f7,c8,c9,d7,b1⟩:GLog)))∧Real Tryz.prog 9 [.agg [.sl 1 d2,.sl 2 d8,.ii e0,.sl 4 g5,.ii c8,.ii c9,.ii d7,.ii b1],.ii n] (.ii a1):=⟨_,rfl,by subst a8 b0 d9;exact r_laws_szLog A hA (⟨⟨b5,d0⟩,e0,f7,c8,c9,d7,b1⟩:GLog) n (by omega) (by omega) (fun k h=>hk k (by simp only[zsStore,List.mem_append];simp only[h,true_or,or_true]))⟩
 refine cvw hc2 (.inr rfl) ?_
 have j0:=chain_bd a3 (by omega)
 refine rz hA 1 ?_
 refine gs (gx hA 2 ?_)
 refine gc (fun c3=> ?_) (fun c3=> ?_)
 ·
  have ec3:a1 < 0:=lss_t hA c3
  refine gx hA 1 ?_
  refine rt (gt ?_)
  show PV.int _ _=PV.int _ _
  refine congrArg (PV.int .i64) ?_
  simp only[zsStore]
  exact chain_subN (by omega) a3 ec3
 have ec3:0≤a1:=lss_f hA c3
 refine gk (gs (gr (rn hA 3 ?_)))
 obtain⟨a7,b6,hc5⟩:∃(a7:Int),a7=(chain a1 (zsIntS i4))∧Real Tryz.prog 10 [.sl 1 i7,.ii a1] (.ii a7):=⟨_,rfl,by subst f8;exact r_laws_szIntS A hA i4 a1 (by omega) (by omega) (fun k h=>hk k (by simp only[zsStore,List.mem_append];simp only[h,true_or,or_true]))⟩
 refine cvw hc5 (.inr rfl) ?_
 have j6:=chain_bd b6 (by omega)
 refine rz hA 1 ?_
 refine gs (gx hA 2 ?_)
 refine gc (fun c6=> ?_) (fun c6=> ?_)
 ·
  have ec6:a7 < 0:=lss_t hA c6
  refine gx hA 1 ?_
  refine rt (gt ?_)
  show PV.int _ _=PV.int _ _
  refine congrArg (PV.int .i64) ?_
  simp only[zsStore]
  rw[chain_sub a3 ec3]
  exact chain_subN (by omega) b6 ec6
 have ec6:0≤a7:=lss_f hA c6
 refine gk (gx hA 2 ?_)
 refine rt (gt ?_)
 show PV.int _ _=PV.int _ _
 refine congrArg (PV.int .i64) ?_
 simp only[zsStore]
 rw[chain_sub a3 ec3]
 rw[chain_sub b6 ec6]
 rfl
end Go.Av
