/- Walks: records that are right. -/
import Derived.Test.YtjbokkoiicoahaaGreatDoorJ1
namespace Go.Av
open Go Go.Proofs
set_option maxRecDepth 100000
set_option maxHeartbeats 4000000
set_option linter.unusedVariables false
set_option linter.unusedSimpArgs false
theorem r_impl_in (A:Alg)(hA:A=std)(n:Int)(lo:Int)(hi:Int):Real Tryz.prog 91 [.ii n,.ii lo,.ii hi] (.bool (inR n lo hi)):=by
 refine real_args (args':=[.ii n,.ii lo,.ii hi]) (by rfl) ?_
 refine real tyOk Tryz.func91 (by kernel_rfl) (afun_of rfl ?_)
 refine gx hA 1 ?_
 refine gs (gr (rn hA 4 ?_))
 refine ops_split 10 rfl (fun c1=> ?_) (fun c1=> ?_)
 ·
  have ec1:lo≤n:=geq_t hA c1
  refine rz hA 5 ?_
  refine rt (gt ?_)
  show _=(PV.bool (A.cmp .leq n hi))
  refine congrArg PV.bool ?_
  try simp only[slen_eq hA] at *
  subst hA
  simp[inR,std,ec1]
 have ec1:n < lo:=geq_f hA c1
 refine rz hA 5 ?_
 refine rt (gt ?_)
 refine congrArg PV.bool ?_
 try simp only[slen_eq hA] at *
 subst hA
 simp[inR,std,ec1,Int.not_le.2 ec1]
theorem r_spec_l01In (A:Alg)(hA:A=std)(n:Int)(lo:Int)(hi:Int):Real Tryz.prog 86 [.ii n,.ii lo,.ii hi] (.bool (inR n lo hi)):=by
 refine real_args (args':=[.ii n,.ii lo,.ii hi]) (by rfl) ?_
 refine real tyOk Tryz.func86 (by kernel_rfl) (afun_of rfl ?_)
 refine gx hA 1 ?_
 refine gs (gr (rn hA 4 ?_))
 refine ops_split 10 rfl (fun c1=> ?_) (fun c1=> ?_)
 ·
  have ec1:lo≤n:=geq_t hA c1
  refine rz hA 5 ?_
  refine rt (gt ?_)
  show _=(PV.bool (A.cmp .leq n hi))
  refine congrArg PV.bool ?_
  try simp only[slen_eq hA] at *
  subst hA
  simp[inR,std,ec1]
 have ec1:n < lo:=geq_f hA c1
 refine rz hA 5 ?_
 refine rt (gt ?_)
 refine congrArg PV.bool ?_
 try simp only[slen_eq hA] at *
 subst hA
 simp[inR,std,ec1,Int.not_le.2 ec1]
def S133_1 (p0:ByteArray)(p1:Int)(p2:Int):St:={sl:=[.str p0,.bad,.bad,.bad,.bad,.bad,.bad,.bad,.bad,.ii p1,.ii p2,.bad,.bad,.bad,.bad,.bad,.bad,.bad,.bad,.bad,.bad,.bad,.bad,.bad],bl:=[]}
theorem r_impl_WordOk (A:Alg)(hA:A=std)(s:ByteArray)(hz:(ByteArray.size s:Int)≤4611686018427387904):Real Tryz.prog 133 [.str s] (.bool (wordOk s)):=by
 refine real_args (args':=[.str s]) (by rfl) ?_
 have zs:=slen_eq hA s
 refine real tyOk Tryz.func133 (by kernel_rfl) (afun_of rfl ?_)
 refine gx hA 1 ?_
 refine gs (gs (gr (rn hA 2 ?_)))
 obtain⟨g6,f8,hc2⟩:∃(g6:Bool),g6=(inR (A.slen s) 1 8)∧Real Tryz.prog 91 [.ii (A.slen s),.ii 1,.ii 8] (.bool g6):=⟨_,rfl,by exact r_impl_in A hA (A.slen s) 1 8⟩
 refine cvw hc2 (.inr rfl) ?_
 refine rz hA 1 ?_
 refine gc (fun c3=> ?_) (fun c3=> ?_)
 ·
  have c4:g6=false:=bnot_t hA c3
  refine gx hA 1 ?_
  refine rt (gt ?_)
  refine congrArg PV.bool ?_
  try simp only[slen_eq hA] at *
  rw[wordOk]
  subst f8
  subst hA
  simp[std,c4]
 have c5:g6=true:=bnot_f hA c3
 refine gk (gs (gx hA 3 ?_))
 refine go_block ?_
 refine go_loopE (fun σ m=>∃(i:Nat) (n:Int),σ=(S133_1 s (A.slen s) n)∧(n=(i:Int)∧i≤ByteArray.size s∧wdB s=wdFrom s i (ByteArray.size s - i))∧m=ByteArray.size s - i) _ [] [0,9,10] [] (S133_1 s (A.slen s) 0) rfl (by cbv) ⟨0,0,rfl,?_,rfl⟩ (fun σ m hI=> ?_)
 ·
  exact⟨rfl,Nat.zero_le _,rfl⟩
 obtain⟨i,n,rfl,⟨hn,hi,hE⟩,rfl⟩:=hI
 have zs:=slen_eq hA s
 refine gx hA 1 ?_
 refine gs ?_
 refine gc (fun c6=> ?_) (fun c6=> ?_)
 ·
  have ec6:n < (A.slen s):=lss_t hA c6
  refine gk (gs ?_)
  refine go_block ?_
  refine gx hA 2 ?_
  refine gs (gr (rn hA 2 ?_))
  have zy7:A.slen s=(ByteArray.size s:Int):=slen_eq hA s
  have m7:(0:Int)≤n:=by omega
  have m3:n < (ByteArray.size s:Int):=by omega
  obtain⟨y7,hy7⟩:=nm (byteAt s n:Int)
  refine ops_step rfl rfl (idx_str rfl rfl rfl rfl m7 m3 hy7) ?_
  refine rn hA 2 ?_
  refine ops_split 17 rfl (fun c8=> ?_) (fun c8=> ?_)
  ·
   have ec8:y7 < 97:=lss_t hA c8
   refine rz hA 5 ?_
   refine gc (fun c9=> ?_) (fun c9=> ?_)
   ·
    refine gx hA 1 ?_
    refine rt (gt ?_)
    refine congrArg PV.bool ?_
    try simp only[slen_eq hA] at *
    rw[wordOk,hE,wd_step (by omega)]
    subst hn
    subst hy7 f8
    subst hA
    simp[std,c5,ec6,ec8]
   exact no_f c9 (show true=true from by rfl)
  have ec8:97≤y7:=lss_f hA c8
  refine rn hA 2 ?_
  have n7:A.slen s=(ByteArray.size s:Int):=slen_eq hA s
  have k9:(0:Int)≤n:=by omega
  have l0:n < (ByteArray.size s:Int):=by omega
  obtain⟨y10,j8⟩:=nm (byteAt s n:Int)
  refine ops_stepG rfl rfl rfl rfl (idx_str rfl rfl rfl rfl k9 l0 j8) ?_
  refine rz hA 2 ?_
  refine gc (fun c11=> ?_) (fun c11=> ?_)
  ·
   have j0:122 < y10:=gtr_t hA c11
   refine gx hA 1 ?_
   refine rt (gt ?_)
   refine congrArg PV.bool ?_
   try simp only[slen_eq hA] at *
   rw[wordOk,hE,wd_step (by omega)]
   subst hn
   subst j8 hy7 f8
   subst hA
   simp[std,c5,ec6,ec8,Int.not_lt.2 ec8,j0]
  have j0:y10≤122:=gtr_f hA c11
  refine gk (gy hA 2 ?_)
  refine⟨(S133_1 s (A.slen s) (A.num .add .i64 n 1)),ByteArray.size s - (i+1),?_,by cbv,i+1,(A.num .add .i64 n 1),rfl,?_,rfl⟩
  ·
   omega
  refine⟨by rw[add_i64 hA (by omega) (by omega)];omega,by omega,?_⟩
  rw[hE,wd_step (by omega)]
  subst j8 hy7
  subst hn
  simp[c5,ec6,ec8,Int.not_lt.2 ec8,j0,Int.not_lt.2 j0]
 have ec6:(A.slen s)≤n:=lss_f hA c6
 refine go_exit ⟨fun _=> ?_,fun h=>absurd rfl h⟩
 refine gx hA 1 ?_
 refine rt (gt ?_)
 refine congrArg PV.bool ?_
 try simp only[slen_eq hA] at *
 rw[wordOk,hE,wd_end (by omega)]
 subst f8
 subst hA
 simp[std,c5,ec6,Int.not_lt.2 ec6]
def S123_1 (p0:ByteArray)(p1:Int):St:={sl:=[.str p0,.bad,.bad,.ii p1,.bad,.bad,.bad,.bad,.bad,.bad,.bad,.bad,.bad,.bad,.bad,.bad,.bad,.bad,.bad,.bad,.bad,.bad,.bad],bl:=[]}
theorem r_spec_WordOk (A:Alg)(hA:A=std)(s:ByteArray)(hz:(ByteArray.size s:Int)≤4611686018427387904):Real Tryz.prog 123 [.str s] (.bool (wordOk s)):=by
 refine real_args (args':=[.str s]) (by rfl) ?_
 have zs:=slen_eq hA s
 refine real tyOk Tryz.func123 (by kernel_rfl) (afun_of rfl ?_)
 refine gx hA 1 ?_
 refine gs (gx hA 1 ?_)
 refine go_block ?_
 refine go_loopE (fun σ m=>∃(i:Nat) (n:Int),σ=(S123_1 s n)∧(n=(i:Int)∧i≤ByteArray.size s∧wdB s=wdFrom s i (ByteArray.size s - i))∧m=ByteArray.size s - i) _ [] [0,3] [] (S123_1 s 0) rfl (by cbv) ⟨0,0,rfl,?_,rfl⟩ (fun σ m hI=> ?_)
 ·
  exact⟨rfl,Nat.zero_le _,rfl⟩
 obtain⟨i,n,rfl,⟨hn,hi,hE⟩,rfl⟩:=hI
 have zs:=slen_eq hA s
 refine gs (gx hA 4 ?_)
 refine gc (fun c1=> ?_) (fun c1=> ?_)
 ·
  have ec1:n < (A.slen s):=lss_t hA c1
  refine gk (gs ?_)
  refine go_block ?_
  refine gs (gr (rn hA 2 ?_))
  have zy2:A.slen s=(ByteArray.size s:Int):=slen_eq hA s
  have l8:(0:Int)≤n:=by omega
  have l3:n < (ByteArray.size s:Int):=by omega
  obtain⟨y2,hy2⟩:=nm (byteAt s n:Int)
  refine ops_step rfl rfl (idx_str rfl rfl rfl rfl l8 l3 hy2) ?_
  refine rn hA 2 ?_
  refine ops_split 14 rfl (fun c3=> ?_) (fun c3=> ?_)
  ·
   have ec3:y2 < 97:=lss_t hA c3
   refine rz hA 5 ?_
   refine gc (fun c4=> ?_) (fun c4=> ?_)
   ·
    refine gx hA 1 ?_
    refine rt (gt ?_)
    refine congrArg PV.bool ?_
    try simp only[slen_eq hA] at *
    rw[wordOk,hE,wd_step (by omega)]
    subst hn
    subst hy2
    subst hA
    simp[std,ec1,ec3]
   exact no_f c4 (show true=true from by rfl)
  have ec3:97≤y2:=lss_f hA c3
  refine rn hA 2 ?_
  have zy5:A.slen s=(ByteArray.size s:Int):=slen_eq hA s
  have m1:(0:Int)≤n:=by omega
  have l4:n < (ByteArray.size s:Int):=by omega
  obtain⟨y5,hy5⟩:=nm (byteAt s n:Int)
  refine ops_stepG rfl rfl rfl rfl (idx_str rfl rfl rfl rfl m1 l4 hy5) ?_
  refine rz hA 2 ?_
  refine gc (fun c6=> ?_) (fun c6=> ?_)
  ·
   have ec6:122 < y5:=gtr_t hA c6
   refine gx hA 1 ?_
   refine rt (gt ?_)
   refine congrArg PV.bool ?_
   try simp only[slen_eq hA] at *
   rw[wordOk,hE,wd_step (by omega)]
   subst hn
   subst hy5 hy2
   subst hA
   simp[std,ec1,ec3,Int.not_lt.2 ec3,ec6]
  have ec6:y5≤122:=gtr_f hA c6
  refine gk (gy hA 3 ?_)
  refine⟨(S123_1 s (A.num .add .i64 n 1)),ByteArray.size s - (i+1),?_,by cbv,i+1,(A.num .add .i64 n 1),rfl,?_,rfl⟩
  ·
   omega
  refine⟨by rw[add_i64 hA (by omega) (by omega)];omega,by omega,?_⟩
  rw[hE,wd_step (by omega)]
  subst hy5 hy2
  subst hn
  simp[ec1,ec3,Int.not_lt.2 ec3,ec6,Int.not_lt.2 ec6]
 have ec1:(A.slen s)≤n:=lss_f hA c1
 refine go_exit ⟨fun _=> ?_,fun h=>absurd rfl h⟩
 refine gs (gr (rn hA 2 ?_))
 obtain⟨j4,k7,hc8⟩:∃(j4:Bool),j4=(inR (A.slen s) 1 8)∧Real Tryz.prog 86 [.ii (A.slen s),.ii 1,.ii 8] (.bool j4):=⟨_,rfl,by exact r_spec_l01In A hA (A.slen s) 1 8⟩
 refine cvw hc8 (.inr rfl) ?_
 refine rz hA 1 ?_
 refine rt (gt ?_)
 refine congrArg PV.bool ?_
 try simp only[slen_eq hA] at *
 rw[wordOk,hE,wd_end (by omega)]
 subst k7
 subst hA
 simp[std,ec1,Int.not_lt.2 ec1]
theorem empE :ByteArray.empty=ByteArray.mk #[]:=rfl
theorem tl_nilE (x:ByteArray):(x.toList=[])=(x=ByteArray.mk #[]):=by
 refine propext ⟨fun h=> ?_,fun h=>by subst h;simp[ByteArray.toList,ByteArray.toList.loop,ByteArray.size]⟩
 have h2:=tl_nil h
 cases x with
 | mk d=>
  have h3:d=#[]:=Array.eq_empty_of_size_eq_zero h2
  rw[h3]
theorem r_impl_RecOk (A:Alg)(hA:A=std)(r:GRec)(hz:∀ q∈zsRec r,(q:Int)≤4611686018427387904):Real Tryz.prog 98 [.agg (eRec r)] (.bool (recOk r)):=by
 obtain⟨a0,b5,a6,a9,a3,a8,a7,b0⟩:=r
 refine real_args (args':=[.agg [.ii a0,.ii b5,.ii a6,.ii a9,.ii a3,.str a8,.str a7,.str b0]]) (by rfl) ?_
 have zUser:(ByteArray.size a8:Int)≤4611686018427387904:=hz _ (by simp[zsRec])
 have zName:(ByteArray.size a7:Int)≤4611686018427387904:=hz _ (by simp[zsRec])
 have zText:(ByteArray.size b0:Int)≤4611686018427387904:=hz _ (by simp[zsRec])
 have lT:=slen_eq hA b0
 refine real tyOk Tryz.func98 (by kernel_rfl) (afun_of rfl ?_)
 refine gx hA 2 ?_
 refine gs (gs (gr (rn hA 2 ?_)))
 obtain⟨g8,b3,hc2⟩:∃(g8:Bool),g8=(inR b5 1 9999)∧Real Tryz.prog 91 [.ii b5,.ii 1,.ii 9999] (.bool g8):=⟨_,rfl,by exact r_impl_in A hA b5 1 9999⟩
 refine cvw hc2 (.inr rfl) ?_
 refine rz hA 1 ?_
 refine gc (fun c3=> ?_) (fun c3=> ?_)
 ·
  have c4:g8=false:=bnot_t hA c3
  refine gx hA 1 ?_
  refine rt (gt ?_)
  refine congrArg PV.bool ?_
  try simp only[lT] at *
  subst b3
  subst hA
  simp[recOk,std,ieq_dec,Bool.and_assoc,c4]
 have c5:g8=true:=bnot_f hA c3
 refine gk (gx hA 3 ?_)
 refine gx hA 4 ?_
 refine gx hA 1 ?_
 refine gs (gs (gr (rn hA 4 ?_)))
 refine ops_split 15 rfl (fun c6=> ?_) (fun c6=> ?_)
 ·
  have ec6:a0=3:=eql_t hA c6
  refine rz hA 9 ?_
  refine gc (fun c7=> ?_) (fun c7=> ?_)
  ·
   refine gs (gr (rn hA 2 ?_))
   obtain⟨j2,e6,hc9⟩:∃(j2:Bool),j2=(inR a6 1 9999)∧Real Tryz.prog 91 [.ii a6,.ii 1,.ii 9999] (.bool j2):=⟨_,rfl,by exact r_impl_in A hA a6 1 9999⟩
   refine cvw hc9 (.inr rfl) ?_
   refine rz hA 1 ?_
   refine gy hA 2 ?_
   refine gs (gs (gr (rn hA 4 ?_)))
   refine ops_split 32 rfl (fun c10=> ?_) (fun c10=> ?_)
   ·
    refine rz hA 4 ?_
    refine gc (fun c11=> ?_) (fun c11=> ?_)
    ·
     refine gs (gr (rn hA 2 ?_))
     refine ops_split 38 rfl (fun c12=> ?_) (fun c12=> ?_)
     ·
      refine rn hA 2 ?_
      obtain⟨g3,f3,m0⟩:∃(g3:Bool),g3=(inR a3 0 7)∧Real Tryz.prog 91 [.ii a3,.ii 0,.ii 7] (.bool g3):=⟨_,rfl,by exact r_impl_in A hA a3 0 7⟩
      refine ops_callG rfl rfl rfl rfl (by cbv) (by cbv) m0 (.inr rfl) (by cbv) ?_
      refine rz hA 2 ?_
      refine gy hA 2 ?_
      refine gs (gx hA 2 ?_)
      refine go_block ?_
      refine gx hA 2 ?_
      refine gc (fun c15=> ?_) (fun c15=> ?_)
      ·
       exact no_t c15 (show(A.cmp .eql a0 1)=false from by rw[ec6];subst hA;rfl)
      refine gx hA 2 ?_
      refine gc (fun c16=> ?_) (fun c16=> ?_)
      ·
       refine gs (gr (rn hA 2 ?_))
       refine ops_split 67 rfl (fun c17=> ?_) (fun c17=> ?_)
       ·
        refine rz hA 6 ?_
        refine gy hA 2 ?_
        refine gs (gr (rn hA 2 ?_))
        refine ops_split 79 rfl (fun c18=> ?_) (fun c18=> ?_)
        ·
         have b7:(A.slen b0)≤100:=leq_t hA c18
         refine rz hA 5 ?_
         refine rt (gt ?_)
         show _=(PV.bool (A.aeq [.ii 0,.ii 0,.ii 0,.ii a9,.ii 0,.str a8,.str a7,.str (ByteArray.mk #[])] [.ii 0,.ii 0,.ii 0,.ii 0,.ii 0,.str ByteArray.empty,.str ByteArray.empty,.str ByteArray.empty]))
         refine congrArg PV.bool ?_
         try simp only[lT] at *
         subst f3 e6 b3
         subst hA
         simp[recOk,std,pvEqL,pvEq,empE,Bool.beq_eq_decide_eq,ieq_dec,tl_nilE,Bool.and_assoc,c5,ec6,c10,c12,c17,b7]
        have b7:100 < (A.slen b0):=leq_f hA c18
        refine rz hA 5 ?_
        refine rt (gt ?_)
        refine congrArg PV.bool ?_
        try simp only[lT] at *
        subst f3 e6 b3
        subst hA
        simp[recOk,std,ieq_dec,Bool.and_assoc,c5,ec6,c10,c12,c17,b7,Int.not_le.2 b7]
       refine rz hA 6 ?_
       refine gy hA 2 ?_
       refine gx hA 7 ?_
       refine rt (gt ?_)
       refine congrArg PV.bool ?_
       try simp only[lT] at *
       subst f3 e6 b3
       subst hA
       simp[recOk,std,ieq_dec,Bool.and_assoc,c5,ec6,c10,c12,c17]
      exact no_f c16 (show(A.cmp .eql a0 3)=true from by exact c6)
     refine rz hA 5 ?_
     refine gy hA 2 ?_
     refine gs (gx hA 2 ?_)
     refine go_block ?_
     refine gx hA 2 ?_
     refine gc (fun c19=> ?_) (fun c19=> ?_)
     ·
      exact no_t c19 (show(A.cmp .eql a0 1)=false from by rw[ec6];subst hA;rfl)
     refine gx hA 2 ?_
     refine gc (fun c20=> ?_) (fun c20=> ?_)
     ·
      refine gx hA 8 ?_
      refine gy hA 2 ?_
      refine gx hA 7 ?_
      refine rt (gt ?_)
      refine congrArg PV.bool ?_
      try simp only[lT] at *
      subst e6 b3
      subst hA
      simp[recOk,std,ieq_dec,Bool.and_assoc,c5,ec6,c10,c12]
     exact no_f c20 (show(A.cmp .eql a0 3)=true from by exact c6)
    exact no_f c11 (show true=true from by rfl)
   exact no_f c10 (show(A.cmp .eql a0 3)=true from by exact c6)
  exact no_f c7 (show true=true from by rfl)
 have ec6:a0≠3:=eql_f hA c6
 refine rn hA 5 ?_
 refine ops_split 20 rfl (fun c21=> ?_) (fun c21=> ?_)
 ·
  have b2:a0=4:=eql_t hA c21
  refine rz hA 4 ?_
  refine gc (fun c22=> ?_) (fun c22=> ?_)
  ·
   refine gs (gr (rn hA 2 ?_))
   obtain⟨g1,f0,m2⟩:∃(g1:Bool),g1=(inR a6 1 9999)∧Real Tryz.prog 91 [.ii a6,.ii 1,.ii 9999] (.bool g1):=⟨_,rfl,by exact r_impl_in A hA a6 1 9999⟩
   refine cvw m2 (.inr rfl) ?_
   refine rz hA 1 ?_
   refine gy hA 2 ?_
   refine gs (gs (gr (rn hA 4 ?_)))
   refine ops_split 32 rfl (fun c25=> ?_) (fun c25=> ?_)
   ·
    exact no_t c25 (show(A.cmp .eql a0 3)=false from by exact c6)
   refine rz hA 4 ?_
   refine gc (fun c26=> ?_) (fun c26=> ?_)
   ·
    refine gs (gr (rn hA 2 ?_))
    refine ops_split 38 rfl (fun c27=> ?_) (fun c27=> ?_)
    ·
     refine rn hA 2 ?_
     obtain⟨g9,i2,l6⟩:∃(g9:Bool),g9=(inR a3 0 7)∧Real Tryz.prog 91 [.ii a3,.ii 0,.ii 7] (.bool g9):=⟨_,rfl,by exact r_impl_in A hA a3 0 7⟩
     refine ops_callG rfl rfl rfl rfl (by cbv) (by cbv) l6 (.inr rfl) (by cbv) ?_
     refine rz hA 2 ?_
     refine gy hA 2 ?_
     refine gs (gx hA 2 ?_)
     refine go_block ?_
     refine gx hA 2 ?_
     refine gc (fun c30=> ?_) (fun c30=> ?_)
     ·
      exact no_t c30 (show(A.cmp .eql a0 1)=false from by rw[b2];subst hA;rfl)
     refine gx hA 2 ?_
     refine gc (fun c31=> ?_) (fun c31=> ?_)
     ·
      exact no_t c31 (show(A.cmp .eql a0 3)=false from by exact c6)
     refine gs (gx hA 2 ?_)
     refine gc (fun c32=> ?_) (fun c32=> ?_)
     ·
      exact no_t c32 (show(A.cmp .eql a0 2)=false from by rw[b2];subst hA;rfl)
     refine gx hA 2 ?_
     refine gc (fun c33=> ?_) (fun c33=> ?_)
     ·
      refine gk ?_
      refine gc (fun c34=> ?_) (fun c34=> ?_)
      ·
       refine gk (gs (gr (rn hA 2 ?_)))
       refine ops_split 79 rfl (fun c35=> ?_) (fun c35=> ?_)
       ·
        refine rz hA 5 ?_
        refine rt (gt ?_)
        show _=(PV.bool (A.aeq [.ii 0,.ii 0,.ii 0,.ii a9,.ii 0,.str a8,.str a7,.str b0] [.ii 0,.ii 0,.ii 0,.ii 0,.ii 0,.str ByteArray.empty,.str ByteArray.empty,.str ByteArray.empty]))
        refine congrArg PV.bool ?_
        try simp only[lT] at *
        subst i2 f0 b3
        subst hA
        simp[recOk,std,pvEqL,pvEq,empE,Bool.beq_eq_decide_eq,ieq_dec,tl_nilE,Bool.and_assoc,c5,ec6,ec6.symm,b2,c25,c27,c35]
       refine rz hA 5 ?_
       refine rt (gt ?_)
       refine congrArg PV.bool ?_
       try simp only[lT] at *
       subst i2 f0 b3
       subst hA
       simp[recOk,std,ieq_dec,Bool.and_assoc,c5,ec6,ec6.symm,b2,c25,c27,c35]
      exact no_f c34 (show(A.cmp .eql a0 4)=true from by exact c21)
     exact no_f c33 (show(A.cmp .eql a0 4)=true from by exact c21)
    refine rz hA 5 ?_
    refine gy hA 2 ?_
    refine gs (gx hA 2 ?_)
    refine go_block ?_
    refine gx hA 2 ?_
    refine gc (fun c36=> ?_) (fun c36=> ?_)
    ·
     exact no_t c36 (show(A.cmp .eql a0 1)=false from by rw[b2];subst hA;rfl)
    refine gx hA 2 ?_
    refine gc (fun c37=> ?_) (fun c37=> ?_)
    ·
     exact no_t c37 (show(A.cmp .eql a0 3)=false from by exact c6)
    refine gs (gx hA 2 ?_)
    refine gc (fun c38=> ?_) (fun c38=> ?_)
    ·
     exact no_t c38 (show(A.cmp .eql a0 2)=false from by rw[b2];subst hA;rfl)
    refine gx hA 2 ?_
    refine gc (fun c39=> ?_) (fun c39=> ?_)
    ·
     refine gk ?_
     refine gc (fun c40=> ?_) (fun c40=> ?_)
     ·
      refine gk (gx hA 7 ?_)
      refine rt (gt ?_)
      refine congrArg PV.bool ?_
      try simp only[lT] at *
      subst f0 b3
      subst hA
      simp[recOk,std,ieq_dec,Bool.and_assoc,c5,ec6,ec6.symm,b2,c25,c27]
     exact no_f c40 (show(A.cmp .eql a0 4)=true from by exact c21)
    exact no_f c39 (show(A.cmp .eql a0 4)=true from by exact c21)
   exact no_f c26 (show(A.cmp .eql a0 4)=true from by exact c21)
  exact no_f c22 (show true=true from by rfl)
 have b2:a0≠4:=eql_f hA c21
 refine rz hA 4 ?_
 refine gc (fun c41=> ?_) (fun c41=> ?_)
 ·
  have b4:a0=5:=eql_t hA c41
  refine gs (gr (rn hA 2 ?_))
  obtain⟨f9,i6,l5⟩:∃(f9:Bool),f9=(inR a6 1 9999)∧Real Tryz.prog 91 [.ii a6,.ii 1,.ii 9999] (.bool f9):=⟨_,rfl,by exact r_impl_in A hA a6 1 9999⟩
  refine cvw l5 (.inr rfl) ?_
  refine rz hA 1 ?_
  refine gy hA 2 ?_
  refine gs (gs (gr (rn hA 4 ?_)))
  refine ops_split 32 rfl (fun c44=> ?_) (fun c44=> ?_)
  ·
   exact no_t c44 (show(A.cmp .eql a0 3)=false from by exact c6)
  refine rz hA 4 ?_
  refine gc (fun c45=> ?_) (fun c45=> ?_)
  ·
   exact no_t c45 (show(A.cmp .eql a0 4)=false from by exact c21)
  refine gk (gs (gx hA 2 ?_))
  refine go_block ?_
  refine gx hA 2 ?_
  refine gc (fun c46=> ?_) (fun c46=> ?_)
  ·
   exact no_t c46 (show(A.cmp .eql a0 1)=false from by rw[b4];subst hA;rfl)
  refine gx hA 2 ?_
  refine gc (fun c47=> ?_) (fun c47=> ?_)
  ·
   exact no_t c47 (show(A.cmp .eql a0 3)=false from by exact c6)
  refine gs (gx hA 2 ?_)
  refine gc (fun c48=> ?_) (fun c48=> ?_)
  ·
   exact no_t c48 (show(A.cmp .eql a0 2)=false from by rw[b4];subst hA;rfl)
  refine gx hA 2 ?_
  refine gc (fun c49=> ?_) (fun c49=> ?_)
  ·
   exact no_t c49 (show(A.cmp .eql a0 4)=false from by exact c21)
  refine gy hA 2 ?_
  refine gc (fun c50=> ?_) (fun c50=> ?_)
  ·
   refine gk (gs (gr (rn hA 2 ?_)))
   refine ops_split 79 rfl (fun c51=> ?_) (fun c51=> ?_)
   ·
    refine rz hA 5 ?_
    refine rt (gt ?_)
    show _=(PV.bool (A.aeq [.ii 0,.ii 0,.ii 0,.ii a9,.ii a3,.str a8,.str a7,.str b0] [.ii 0,.ii 0,.ii 0,.ii 0,.ii 0,.str ByteArray.empty,.str ByteArray.empty,.str ByteArray.empty]))
    refine congrArg PV.bool ?_
    try simp only[lT] at *
    subst i6 b3
    subst hA
    simp[recOk,std,pvEqL,pvEq,empE,Bool.beq_eq_decide_eq,ieq_dec,tl_nilE,Bool.and_assoc,c5,ec6,ec6.symm,b2,b2.symm,b4,c44,c51]
   refine rz hA 5 ?_
   refine rt (gt ?_)
   refine congrArg PV.bool ?_
   try simp only[lT] at *
   subst i6 b3
   subst hA
   simp[recOk,std,ieq_dec,Bool.and_assoc,c5,ec6,ec6.symm,b2,b2.symm,b4,c44,c51]
  exact no_f c50 (show(A.cmp .eql a0 5)=true from by exact c41)
 have b4:a0≠5:=eql_f hA c41
 refine gk (gs (gs (gr (rn hA 4 ?_))))
 refine ops_split 32 rfl (fun c52=> ?_) (fun c52=> ?_)
 ·
  exact no_t c52 (show(A.cmp .eql a0 3)=false from by exact c6)
 refine rz hA 4 ?_
 refine gc (fun c53=> ?_) (fun c53=> ?_)
 ·
  exact no_t c53 (show(A.cmp .eql a0 4)=false from by exact c21)
 refine gk (gs (gx hA 2 ?_))
 refine go_block ?_
 refine gx hA 2 ?_
 refine gc (fun c54=> ?_) (fun c54=> ?_)
 ·
  have d1:a0=1:=eql_t hA c54
  refine gs (gr (rn hA 2 ?_))
  obtain⟨g2,e3,m4⟩:∃(g2:Bool),g2=(wordOk a8)∧Real Tryz.prog 133 [.str a8] (.bool g2):=⟨_,rfl,by exact r_impl_WordOk A hA a8 (by first | assumption | omega)⟩
  refine cvw m4 (.inr rfl) ?_
  refine rn hA 1 ?_
  refine ops_split 51 rfl (fun c57=> ?_) (fun c57=> ?_)
  ·
   refine rn hA 2 ?_
   obtain⟨i0,e9,n0⟩:∃(i0:Bool),i0=(wordOk a7)∧Real Tryz.prog 133 [.str a7] (.bool i0):=⟨_,rfl,by exact r_impl_WordOk A hA a7 (by first | assumption | omega)⟩
   refine ops_callG rfl rfl rfl rfl (by cbv) (by cbv) n0 (.inr rfl) (by cbv) ?_
   refine rn hA 2 ?_
   refine ops_split 56 rfl (fun c60=> ?_) (fun c60=> ?_)
   ·
    refine rn hA 2 ?_
    obtain⟨i1,i5,l2⟩:∃(i1:Bool),i1=(inR a9 1 10000)∧Real Tryz.prog 91 [.ii a9,.ii 1,.ii 10000] (.bool i1):=⟨_,rfl,by exact r_impl_in A hA a9 1 10000⟩
    refine ops_callG rfl rfl rfl rfl (by cbv) (by cbv) l2 (.inr rfl) (by cbv) ?_
    refine rz hA 2 ?_
    refine gy hA 6 ?_
    refine gs (gr (rn hA 2 ?_))
    refine ops_split 79 rfl (fun c63=> ?_) (fun c63=> ?_)
    ·
     refine rz hA 5 ?_
     refine rt (gt ?_)
     show _=(PV.bool (A.aeq [.ii 0,.ii 0,.ii a6,.ii 0,.ii a3,.str (ByteArray.mk #[]),.str (ByteArray.mk #[]),.str b0] [.ii 0,.ii 0,.ii 0,.ii 0,.ii 0,.str ByteArray.empty,.str ByteArray.empty,.str ByteArray.empty]))
     refine congrArg PV.bool ?_
     try simp only[lT] at *
     subst i5 e9 e3 b3
     subst hA
     simp[recOk,std,pvEqL,pvEq,empE,Bool.beq_eq_decide_eq,ieq_dec,tl_nilE,Bool.and_assoc,c5,ec6,ec6.symm,b2,b2.symm,b4,b4.symm,c52,d1,c57,c60,c63]
    refine rz hA 5 ?_
    refine rt (gt ?_)
    refine congrArg PV.bool ?_
    try simp only[lT] at *
    subst i5 e9 e3 b3
    subst hA
    simp[recOk,std,ieq_dec,Bool.and_assoc,c5,ec6,ec6.symm,b2,b2.symm,b4,b4.symm,c52,d1,c57,c60,c63]
   refine rz hA 5 ?_
   refine gy hA 6 ?_
   refine gx hA 7 ?_
   refine rt (gt ?_)
   refine congrArg PV.bool ?_
   try simp only[lT] at *
   subst e9 e3 b3
   subst hA
   simp[recOk,std,ieq_dec,Bool.and_assoc,c5,ec6,ec6.symm,b2,b2.symm,b4,b4.symm,c52,d1,c57,c60]
  refine rz hA 10 ?_
  refine gy hA 6 ?_
  refine gx hA 7 ?_
  refine rt (gt ?_)
  refine congrArg PV.bool ?_
  try simp only[lT] at *
  subst e3 b3
  subst hA
  simp[recOk,std,ieq_dec,Bool.and_assoc,c5,ec6,ec6.symm,b2,b2.symm,b4,b4.symm,c52,d1,c57]
 have d1:a0≠1:=eql_f hA c54
 refine gx hA 2 ?_
 refine gc (fun c64=> ?_) (fun c64=> ?_)
 ·
  exact no_t c64 (show(A.cmp .eql a0 3)=false from by exact c6)
 refine gs (gx hA 2 ?_)
 refine gc (fun c65=> ?_) (fun c65=> ?_)
 ·
  have i9:a0=2:=eql_t hA c65
  refine gk ?_
  refine gc (fun c66=> ?_) (fun c66=> ?_)
  ·
   refine gk (gx hA 7 ?_)
   refine rt (gt ?_)
   show _=(PV.bool (A.aeq [.ii 0,.ii 0,.ii a6,.ii a9,.ii a3,.str a8,.str a7,.str b0] [.ii 0,.ii 0,.ii 0,.ii 0,.ii 0,.str ByteArray.empty,.str ByteArray.empty,.str ByteArray.empty]))
   refine congrArg PV.bool ?_
   try simp only[lT] at *
   subst b3
   subst hA
   simp[recOk,std,pvEqL,pvEq,empE,Bool.beq_eq_decide_eq,ieq_dec,tl_nilE,Bool.and_assoc,c5,ec6,ec6.symm,b2,b2.symm,b4,b4.symm,c52,d1,d1.symm,i9]
  exact no_f c66 (show(A.cmp .eql a0 2)=true from by exact c65)
 have i9:a0≠2:=eql_f hA c65
 refine gx hA 2 ?_
 refine gc (fun c67=> ?_) (fun c67=> ?_)
 ·
  exact no_t c67 (show(A.cmp .eql a0 4)=false from by exact c21)
 refine gy hA 2 ?_
 refine gc (fun c68=> ?_) (fun c68=> ?_)
 ·
  exact no_t c68 (show(A.cmp .eql a0 5)=false from by exact c41)
 refine gx hA 1 ?_
 refine rt (gt ?_)
 refine congrArg PV.bool ?_
 try simp only[lT] at *
 subst b3
 subst hA
 simp[recOk,std,ieq_dec,Bool.and_assoc,c5,ec6,ec6.symm,b2,b2.symm,b4,b4.symm,c52,d1,d1.symm,i9,i9.symm]
theorem r_spec_RecOk (A:Alg)(hA:A=std)(r:GRec)(hz:∀ q∈zsRec r,(q:Int)≤4611686018427387904):Real Tryz.prog 87 [.agg (eRec r)] (.bool (recOk r)):=by
 obtain⟨a0,b5,a6,a9,a3,a8,a7,b0⟩:=r
 refine real_args (args':=[.agg [.ii a0,.ii b5,.ii a6,.ii a9,.ii a3,.str a8,.str a7,.str b0]]) (by rfl) ?_
 have zUser:(ByteArray.size a8:Int)≤4611686018427387904:=hz _ (by simp[zsRec])
 have zName:(ByteArray.size a7:Int)≤4611686018427387904:=hz _ (by simp[zsRec])
 have zText:(ByteArray.size b0:Int)≤4611686018427387904:=hz _ (by simp[zsRec])
 have lT:=slen_eq hA b0
 refine real tyOk Tryz.func87 (by kernel_rfl) (afun_of rfl ?_)
 refine gx hA 2 ?_
 refine gs (gs (gr (rn hA 2 ?_)))
 obtain⟨g4,a1,hc2⟩:∃(g4:Bool),g4=(inR a0 1 5)∧Real Tryz.prog 86 [.ii a0,.ii 1,.ii 5] (.bool g4):=⟨_,rfl,by exact r_spec_l01In A hA a0 1 5⟩
 refine cvw hc2 (.inr rfl) ?_
 refine rn hA 2 ?_
 refine ops_split 10 rfl (fun c3=> ?_) (fun c3=> ?_)
 ·
  have c4:g4=false:=bnot_t hA c3
  refine rz hA 5 ?_
  refine gc (fun c5=> ?_) (fun c5=> ?_)
  ·
   refine gx hA 1 ?_
   refine rt (gt ?_)
   refine congrArg PV.bool ?_
   try simp only[lT] at *
   have hK:=c4
   rw[a1] at hK
   simp only[inR,Bool.and_eq_false_iff,decide_eq_true_eq,decide_eq_false_iff_not] at hK
   have n1:a0≠1:=by omega
   have n2:a0≠2:=by omega
   have n3:a0≠3:=by omega
   have n4:a0≠4:=by omega
   have n5:a0≠5:=by omega
   subst a1
   subst hA
   simp[recOk,std,ieq_dec,Bool.and_assoc,n1,n2,n3,n4,n5,c4]
  exact no_f c5 (show true=true from by rfl)
 have c6:g4=true:=bnot_f hA c3
 refine rn hA 2 ?_
 obtain⟨e8,a4,hc8⟩:∃(e8:Bool),e8=(inR b5 1 9999)∧Real Tryz.prog 86 [.ii b5,.ii 1,.ii 9999] (.bool e8):=⟨_,rfl,by exact r_spec_l01In A hA b5 1 9999⟩
 refine ops_callG rfl rfl rfl rfl (by cbv) (by cbv) hc8 (.inr rfl) (by cbv) ?_
 refine rz hA 2 ?_
 refine gc (fun c9=> ?_) (fun c9=> ?_)
 ·
  have c10:e8=false:=bnot_t hA c9
  refine gx hA 1 ?_
  refine rt (gt ?_)
  refine congrArg PV.bool ?_
  try simp only[lT] at *
  have hK:=c6
  rw[a1] at hK
  simp only[inR,Bool.and_eq_true,decide_eq_true_eq,decide_eq_false_iff_not] at hK
  subst a4 a1
  subst hA
  simp[recOk,std,ieq_dec,Bool.and_assoc,hK,c6,c10]
 have c11:e8=true:=bnot_f hA c9
 refine gk (gx hA 4 ?_)
 refine gs (gr (rn hA 4 ?_))
 refine ops_split 22 rfl (fun c12=> ?_) (fun c12=> ?_)
 ·
  have a2:a0=3:=eql_t hA c12
  refine rz hA 10 ?_
  refine gs (gr (rn hA 4 ?_))
  refine ops_split 35 rfl (fun c13=> ?_) (fun c13=> ?_)
  ·
   refine rz hA 5 ?_
   refine gs (gs (gr (rn hA 2 ?_)))
   refine ops_split 41 rfl (fun c14=> ?_) (fun c14=> ?_)
   ·
    exact no_t c14 (show(A.cmp .eql a0 1)=false from by rw[a2];subst hA;rfl)
   refine rn hA 21 ?_
   refine ops_split 62 rfl (fun c15=> ?_) (fun c15=> ?_)
   ·
    refine rn hA 4 ?_
    refine ops_split 66 rfl (fun c16=> ?_) (fun c16=> ?_)
    ·
     have d5:a8≠(ByteArray.mk #[]):=sneq_t hA c16
     refine rz hA 11 ?_
     refine gc (fun c17=> ?_) (fun c17=> ?_)
     ·
      refine gx hA 1 ?_
      refine rt (gt ?_)
      refine congrArg PV.bool ?_
      try simp only[lT] at *
      have hK:=c6
      rw[a1] at hK
      simp only[inR,Bool.and_eq_true,decide_eq_true_eq,decide_eq_false_iff_not] at hK
      subst a4 a1
      subst hA
      simp[recOk,std,ieq_dec,Bool.and_assoc,hK,c6,c11,a2,c13,c14,c15,d5,d5.symm]
     exact no_f c17 (show true=true from by rfl)
    have d5:a8=(ByteArray.mk #[]):=sneq_f hA c16
    refine rn hA 5 ?_
    refine ops_split 71 rfl (fun c18=> ?_) (fun c18=> ?_)
    ·
     have b7:a7≠(ByteArray.mk #[]):=sneq_t hA c18
     refine rz hA 6 ?_
     refine gc (fun c19=> ?_) (fun c19=> ?_)
     ·
      refine gx hA 1 ?_
      refine rt (gt ?_)
      refine congrArg PV.bool ?_
      try simp only[lT] at *
      have hK:=c6
      rw[a1] at hK
      simp only[inR,Bool.and_eq_true,decide_eq_true_eq,decide_eq_false_iff_not] at hK
      subst a4 a1
      subst hA
      simp[recOk,std,ieq_dec,Bool.and_assoc,hK,c6,c11,a2,c13,c14,c15,d5,b7,b7.symm]
     exact no_f c19 (show true=true from by rfl)
    have b7:a7=(ByteArray.mk #[]):=sneq_f hA c18
    refine rz hA 6 ?_
    refine gc (fun c20=> ?_) (fun c20=> ?_)
    ·
     have f2:a9≠0:=neq_t hA c20
     refine gx hA 1 ?_
     refine rt (gt ?_)
     refine congrArg PV.bool ?_
     try simp only[lT] at *
     have hK:=c6
     rw[a1] at hK
     simp only[inR,Bool.and_eq_true,decide_eq_true_eq,decide_eq_false_iff_not] at hK
     subst a4 a1
     subst hA
     simp[recOk,std,ieq_dec,Bool.and_assoc,hK,c6,c11,a2,c13,c14,c15,d5,b7,f2,f2.symm]
    have f2:a9=0:=neq_f hA c20
    refine gk (gs (gs (gr (rn hA 4 ?_))))
    obtain⟨d8,f1,l9⟩:∃(d8:Bool),d8=(inR a6 1 9999)∧Real Tryz.prog 86 [.ii a6,.ii 1,.ii 9999] (.bool d8):=⟨_,rfl,by exact r_spec_l01In A hA a6 1 9999⟩
    refine ops_callG rfl rfl rfl rfl (by cbv) (by cbv) l9 (.inr rfl) (by cbv) ?_
    refine rn hA 3 ?_
    refine ops_split 85 rfl (fun c23=> ?_) (fun c23=> ?_)
    ·
     have c24:d8=false:=bnot_t hA c23
     refine rz hA 8 ?_
     refine gc (fun c25=> ?_) (fun c25=> ?_)
     ·
      refine gx hA 1 ?_
      refine rt (gt ?_)
      refine congrArg PV.bool ?_
      try simp only[lT] at *
      have hK:=c6
      rw[a1] at hK
      simp only[inR,Bool.and_eq_true,decide_eq_true_eq,decide_eq_false_iff_not] at hK
      subst f1 a4 a1
      subst hA
      simp[recOk,std,ieq_dec,Bool.and_assoc,hK,c6,c11,a2,c13,c14,c15,d5,b7,f2,c24]
     exact no_f c25 (show true=true from by rfl)
    have c26:d8=true:=bnot_f hA c23
    refine rn hA 3 ?_
    refine ops_split 88 rfl (fun c27=> ?_) (fun c27=> ?_)
    ·
     exact no_t c27 (show(A.bnot true)=false from by subst hA;rfl)
    refine rz hA 5 ?_
    refine gc (fun c28=> ?_) (fun c28=> ?_)
    ·
     exact no_t c28 (show false=false from by rfl)
    refine gk (gs (gs (gr (rn hA 4 ?_))))
    obtain⟨d9,i4,m9⟩:∃(d9:Bool),d9=(inR a3 0 7)∧Real Tryz.prog 86 [.ii a3,.ii 0,.ii 7] (.bool d9):=⟨_,rfl,by exact r_spec_l01In A hA a3 0 7⟩
    refine ops_callG rfl rfl rfl rfl (by cbv) (by cbv) m9 (.inr rfl) (by cbv) ?_
    refine rn hA 3 ?_
    refine ops_split 101 rfl (fun c31=> ?_) (fun c31=> ?_)
    ·
     have c32:d9=false:=bnot_t hA c31
     refine rz hA 8 ?_
     refine gc (fun c33=> ?_) (fun c33=> ?_)
     ·
      refine gx hA 1 ?_
      refine rt (gt ?_)
      refine congrArg PV.bool ?_
      try simp only[lT] at *
      have hK:=c6
      rw[a1] at hK
      simp only[inR,Bool.and_eq_true,decide_eq_true_eq,decide_eq_false_iff_not] at hK
      subst i4 f1 a4 a1
      subst hA
      simp[recOk,std,ieq_dec,Bool.and_assoc,hK,c6,c11,a2,c13,c14,c15,d5,b7,f2,c26,c27,c32]
     exact no_f c33 (show true=true from by rfl)
    have c34:d9=true:=bnot_f hA c31
    refine rn hA 3 ?_
    refine ops_split 104 rfl (fun c35=> ?_) (fun c35=> ?_)
    ·
     exact no_t c35 (show(A.bnot true)=false from by subst hA;rfl)
    refine rz hA 5 ?_
    refine gc (fun c36=> ?_) (fun c36=> ?_)
    ·
     exact no_t c36 (show false=false from by rfl)
    refine gk (gs (gx hA 3 ?_))
    refine gc (fun c37=> ?_) (fun c37=> ?_)
    ·
     refine gx hA 5 ?_
     refine rt (gt ?_)
     show _=(PV.bool (A.cmp .leq (A.slen b0) 100))
     refine congrArg PV.bool ?_
     try simp only[lT] at *
     have hK:=c6
     rw[a1] at hK
     simp only[inR,Bool.and_eq_true,decide_eq_true_eq,decide_eq_false_iff_not] at hK
     subst i4 f1 a4 a1
     subst hA
     simp[recOk,std,ieq_dec,Bool.and_assoc,hK,c6,c11,a2,c13,c14,c15,d5,b7,f2,c26,c27,c34,c35]
    exact no_f c37 (show(A.cmp .eql a0 3)=true from by exact c12)
   exact absurd (show(A.bnot (A.cmp .eql a0 1))=false from c15) (by rw[show(A.bnot (A.cmp .eql a0 1))=true from by rw[show(A.cmp .eql a0 1)=false from by rw[a2];subst hA;rfl];subst hA;rfl];decide)
  exact no_f c13 (show(A.cmp .eql a0 3)=true from by exact c12)
 have a2:a0≠3:=eql_f hA c12
 refine rn hA 5 ?_
 refine ops_split 27 rfl (fun c38=> ?_) (fun c38=> ?_)
 ·
  have a5:a0=4:=eql_t hA c38
  refine rz hA 5 ?_
  refine gs (gr (rn hA 4 ?_))
  refine ops_split 35 rfl (fun c39=> ?_) (fun c39=> ?_)
  ·
   exact no_t c39 (show(A.cmp .eql a0 3)=false from by exact c12)
  refine rz hA 5 ?_
  refine gs (gs (gr (rn hA 2 ?_)))
  refine ops_split 41 rfl (fun c40=> ?_) (fun c40=> ?_)
  ·
   exact no_t c40 (show(A.cmp .eql a0 1)=false from by rw[a5];subst hA;rfl)
  refine rn hA 21 ?_
  refine ops_split 62 rfl (fun c41=> ?_) (fun c41=> ?_)
  ·
   refine rn hA 4 ?_
   refine ops_split 66 rfl (fun c42=> ?_) (fun c42=> ?_)
   ·
    have d6:a8≠(ByteArray.mk #[]):=sneq_t hA c42
    refine rz hA 11 ?_
    refine gc (fun c43=> ?_) (fun c43=> ?_)
    ·
     refine gx hA 1 ?_
     refine rt (gt ?_)
     refine congrArg PV.bool ?_
     try simp only[lT] at *
     have hK:=c6
     rw[a1] at hK
     simp only[inR,Bool.and_eq_true,decide_eq_true_eq,decide_eq_false_iff_not] at hK
     subst a4 a1
     subst hA
     simp[recOk,std,ieq_dec,Bool.and_assoc,hK,c6,c11,a2,a2.symm,a5,c39,c40,c41,d6,d6.symm]
    exact no_f c43 (show true=true from by rfl)
   have d6:a8=(ByteArray.mk #[]):=sneq_f hA c42
   refine rn hA 5 ?_
   refine ops_split 71 rfl (fun c44=> ?_) (fun c44=> ?_)
   ·
    have e4:a7≠(ByteArray.mk #[]):=sneq_t hA c44
    refine rz hA 6 ?_
    refine gc (fun c45=> ?_) (fun c45=> ?_)
    ·
     refine gx hA 1 ?_
     refine rt (gt ?_)
     refine congrArg PV.bool ?_
     try simp only[lT] at *
     have hK:=c6
     rw[a1] at hK
     simp only[inR,Bool.and_eq_true,decide_eq_true_eq,decide_eq_false_iff_not] at hK
     subst a4 a1
     subst hA
     simp[recOk,std,ieq_dec,Bool.and_assoc,hK,c6,c11,a2,a2.symm,a5,c39,c40,c41,d6,e4,e4.symm]
    exact no_f c45 (show true=true from by rfl)
   have e4:a7=(ByteArray.mk #[]):=sneq_f hA c44
   refine rz hA 6 ?_
   refine gc (fun c46=> ?_) (fun c46=> ?_)
   ·
    have f5:a9≠0:=neq_t hA c46
    refine gx hA 1 ?_
    refine rt (gt ?_)
    refine congrArg PV.bool ?_
    try simp only[lT] at *
    have hK:=c6
    rw[a1] at hK
    simp only[inR,Bool.and_eq_true,decide_eq_true_eq,decide_eq_false_iff_not] at hK
    subst a4 a1
    subst hA
    simp[recOk,std,ieq_dec,Bool.and_assoc,hK,c6,c11,a2,a2.symm,a5,c39,c40,c41,d6,e4,f5,f5.symm]
   have f5:a9=0:=neq_f hA c46
   refine gk (gs (gs (gr (rn hA 4 ?_))))
   obtain⟨d3,f4,m8⟩:∃(d3:Bool),d3=(inR a6 1 9999)∧Real Tryz.prog 86 [.ii a6,.ii 1,.ii 9999] (.bool d3):=⟨_,rfl,by exact r_spec_l01In A hA a6 1 9999⟩
   refine ops_callG rfl rfl rfl rfl (by cbv) (by cbv) m8 (.inr rfl) (by cbv) ?_
   refine rn hA 3 ?_
   refine ops_split 85 rfl (fun c49=> ?_) (fun c49=> ?_)
   ·
    have c50:d3=false:=bnot_t hA c49
    refine rz hA 8 ?_
    refine gc (fun c51=> ?_) (fun c51=> ?_)
    ·
     refine gx hA 1 ?_
     refine rt (gt ?_)
     refine congrArg PV.bool ?_
     try simp only[lT] at *
     have hK:=c6
     rw[a1] at hK
     simp only[inR,Bool.and_eq_true,decide_eq_true_eq,decide_eq_false_iff_not] at hK
     subst f4 a4 a1
     subst hA
     simp[recOk,std,ieq_dec,Bool.and_assoc,hK,c6,c11,a2,a2.symm,a5,c39,c40,c41,d6,e4,f5,c50]
    exact no_f c51 (show true=true from by rfl)
   have c52:d3=true:=bnot_f hA c49
   refine rn hA 3 ?_
   refine ops_split 88 rfl (fun c53=> ?_) (fun c53=> ?_)
   ·
    exact no_t c53 (show(A.bnot true)=false from by subst hA;rfl)
   refine rz hA 5 ?_
   refine gc (fun c54=> ?_) (fun c54=> ?_)
   ·
    exact no_t c54 (show false=false from by rfl)
   refine gk (gs (gs (gr (rn hA 2 ?_))))
   refine ops_split 95 rfl (fun c55=> ?_) (fun c55=> ?_)
   ·
    refine rn hA 2 ?_
    obtain⟨d4,i3,l1⟩:∃(d4:Bool),d4=(inR a3 0 7)∧Real Tryz.prog 86 [.ii a3,.ii 0,.ii 7] (.bool d4):=⟨_,rfl,by exact r_spec_l01In A hA a3 0 7⟩
    refine ops_callG rfl rfl rfl rfl (by cbv) (by cbv) l1 (.inr rfl) (by cbv) ?_
    refine rn hA 3 ?_
    refine ops_split 101 rfl (fun c58=> ?_) (fun c58=> ?_)
    ·
     have c59:d4=false:=bnot_t hA c58
     refine rz hA 8 ?_
     refine gc (fun c60=> ?_) (fun c60=> ?_)
     ·
      refine gx hA 1 ?_
      refine rt (gt ?_)
      refine congrArg PV.bool ?_
      try simp only[lT] at *
      have hK:=c6
      rw[a1] at hK
      simp only[inR,Bool.and_eq_true,decide_eq_true_eq,decide_eq_false_iff_not] at hK
      subst i3 f4 a4 a1
      subst hA
      simp[recOk,std,ieq_dec,Bool.and_assoc,hK,c6,c11,a2,a2.symm,a5,c39,c40,c41,d6,e4,f5,c52,c53,c55,c59]
     exact no_f c60 (show true=true from by rfl)
    have c61:d4=true:=bnot_f hA c58
    refine rn hA 3 ?_
    refine ops_split 104 rfl (fun c62=> ?_) (fun c62=> ?_)
    ·
     exact absurd (show(A.bnot (A.cmp .eql a0 4))=true from c62) (by rw[show(A.bnot (A.cmp .eql a0 4))=false from by rw[show(A.cmp .eql a0 4)=true from by exact c38];subst hA;rfl];decide)
    refine rz hA 5 ?_
    refine gc (fun c63=> ?_) (fun c63=> ?_)
    ·
     exact no_t c63 (show false=false from by rfl)
    refine gk (gs (gx hA 3 ?_))
    refine gc (fun c64=> ?_) (fun c64=> ?_)
    ·
     exact no_t c64 (show(A.cmp .eql a0 3)=false from by exact c12)
    refine gk (gx hA 4 ?_)
    refine rt (gt ?_)
    show _=(PV.bool (A.scmp .eql b0 (ByteArray.mk #[])))
    refine congrArg PV.bool ?_
    try simp only[lT] at *
    have hK:=c6
    rw[a1] at hK
    simp only[inR,Bool.and_eq_true,decide_eq_true_eq,decide_eq_false_iff_not] at hK
    subst i3 f4 a4 a1
    subst hA
    simp[recOk,std,pvEqL,pvEq,empE,Bool.beq_eq_decide_eq,ieq_dec,tl_nilE,Bool.and_assoc,hK,c6,c11,a2,a2.symm,a5,c39,c40,c41,d6,e4,f5,c52,c53,c55,c61,c62]
   exact no_f c55 (show(A.cmp .eql a0 4)=true from by exact c38)
  exact absurd (show(A.bnot (A.cmp .eql a0 1))=false from c41) (by rw[show(A.bnot (A.cmp .eql a0 1))=true from by rw[show(A.cmp .eql a0 1)=false from by rw[a5];subst hA;rfl];subst hA;rfl];decide)
 have a5:a0≠4:=eql_f hA c38
 refine rz hA 5 ?_
 refine gs (gr (rn hA 4 ?_))
 refine ops_split 35 rfl (fun c65=> ?_) (fun c65=> ?_)
 ·
  exact no_t c65 (show(A.cmp .eql a0 3)=false from by exact c12)
 refine rz hA 5 ?_
 refine gs (gs (gr (rn hA 2 ?_)))
 refine ops_split 41 rfl (fun c66=> ?_) (fun c66=> ?_)
 ·
  have b1:a0=1:=eql_t hA c66
  refine rn hA 2 ?_
  obtain⟨d7,b8,m5⟩:∃(d7:Bool),d7=(wordOk a8)∧Real Tryz.prog 123 [.str a8] (.bool d7):=⟨_,rfl,by exact r_spec_WordOk A hA a8 (by first | assumption | omega)⟩
  refine ops_callG rfl rfl rfl rfl (by cbv) (by cbv) m5 (.inr rfl) (by cbv) ?_
  refine rn hA 2 ?_
  refine ops_split 46 rfl (fun c69=> ?_) (fun c69=> ?_)
  ·
   have c70:d7=false:=bnot_t hA c69
   refine rz hA 31 ?_
   refine gc (fun c71=> ?_) (fun c71=> ?_)
   ·
    refine gx hA 1 ?_
    refine rt (gt ?_)
    refine congrArg PV.bool ?_
    try simp only[lT] at *
    have hK:=c6
    rw[a1] at hK
    simp only[inR,Bool.and_eq_true,decide_eq_true_eq,decide_eq_false_iff_not] at hK
    subst b8 a4 a1
    subst hA
    simp[recOk,std,ieq_dec,Bool.and_assoc,hK,c6,c11,a2,a2.symm,a5,a5.symm,c65,b1,c70]
   exact no_f c71 (show true=true from by rfl)
  have c72:d7=true:=bnot_f hA c69
  refine rn hA 2 ?_
  obtain⟨e1,c2,m6⟩:∃(e1:Bool),e1=(wordOk a7)∧Real Tryz.prog 123 [.str a7] (.bool e1):=⟨_,rfl,by exact r_spec_WordOk A hA a7 (by first | assumption | omega)⟩
  refine ops_callG rfl rfl rfl rfl (by cbv) (by cbv) m6 (.inr rfl) (by cbv) ?_
  refine rn hA 3 ?_
  refine ops_split 52 rfl (fun c75=> ?_) (fun c75=> ?_)
  ·
   have c76:e1=false:=bnot_t hA c75
   refine rz hA 25 ?_
   refine gc (fun c77=> ?_) (fun c77=> ?_)
   ·
    refine gx hA 1 ?_
    refine rt (gt ?_)
    refine congrArg PV.bool ?_
    try simp only[lT] at *
    have hK:=c6
    rw[a1] at hK
    simp only[inR,Bool.and_eq_true,decide_eq_true_eq,decide_eq_false_iff_not] at hK
    subst c2 b8 a4 a1
    subst hA
    simp[recOk,std,ieq_dec,Bool.and_assoc,hK,c6,c11,a2,a2.symm,a5,a5.symm,c65,b1,c72,c76]
   exact no_f c77 (show true=true from by rfl)
  have c78:e1=true:=bnot_f hA c75
  refine rn hA 2 ?_
  obtain⟨e0,e2,l7⟩:∃(e0:Bool),e0=(inR a9 1 10000)∧Real Tryz.prog 86 [.ii a9,.ii 1,.ii 10000] (.bool e0):=⟨_,rfl,by exact r_spec_l01In A hA a9 1 10000⟩
  refine ops_callG rfl rfl rfl rfl (by cbv) (by cbv) l7 (.inr rfl) (by cbv) ?_
  refine rn hA 4 ?_
  refine ops_split 59 rfl (fun c81=> ?_) (fun c81=> ?_)
  ·
   have c82:e0=false:=bnot_t hA c81
   refine rz hA 18 ?_
   refine gc (fun c83=> ?_) (fun c83=> ?_)
   ·
    refine gx hA 1 ?_
    refine rt (gt ?_)
    refine congrArg PV.bool ?_
    try simp only[lT] at *
    have hK:=c6
    rw[a1] at hK
    simp only[inR,Bool.and_eq_true,decide_eq_true_eq,decide_eq_false_iff_not] at hK
    subst e2 c2 b8 a4 a1
    subst hA
    simp[recOk,std,ieq_dec,Bool.and_assoc,hK,c6,c11,a2,a2.symm,a5,a5.symm,c65,b1,c72,c78,c82]
   exact no_f c83 (show true=true from by rfl)
  have c84:e0=true:=bnot_f hA c81
  refine rn hA 3 ?_
  refine ops_split 62 rfl (fun c85=> ?_) (fun c85=> ?_)
  ·
   exact absurd (show(A.bnot (A.cmp .eql a0 1))=true from c85) (by rw[show(A.bnot (A.cmp .eql a0 1))=false from by rw[show(A.cmp .eql a0 1)=true from by exact c66];subst hA;rfl];decide)
  refine rz hA 15 ?_
  refine gc (fun c86=> ?_) (fun c86=> ?_)
  ·
   exact no_t c86 (show false=false from by rfl)
  refine gk (gs (gs (gr (rn hA 2 ?_))))
  refine ops_split 79 rfl (fun c87=> ?_) (fun c87=> ?_)
  ·
   exact no_t c87 (show(A.cmp .eql a0 5)=false from by rw[b1];subst hA;rfl)
  refine rn hA 9 ?_
  refine ops_split 88 rfl (fun c88=> ?_) (fun c88=> ?_)
  ·
   refine rz hA 5 ?_
   refine gc (fun c89=> ?_) (fun c89=> ?_)
   ·
    have g7:a6≠0:=neq_t hA c89
    refine gx hA 1 ?_
    refine rt (gt ?_)
    refine congrArg PV.bool ?_
    try simp only[lT] at *
    have hK:=c6
    rw[a1] at hK
    simp only[inR,Bool.and_eq_true,decide_eq_true_eq,decide_eq_false_iff_not] at hK
    subst e2 c2 b8 a4 a1
    subst hA
    simp[recOk,std,ieq_dec,Bool.and_assoc,hK,c6,c11,a2,a2.symm,a5,a5.symm,c65,b1,c72,c78,c84,c85,c87,c88,g7,g7.symm]
   have g7:a6=0:=neq_f hA c89
   refine gk (gs (gs (gr (rn hA 2 ?_))))
   refine ops_split 95 rfl (fun c90=> ?_) (fun c90=> ?_)
   ·
    exact no_t c90 (show(A.cmp .eql a0 4)=false from by exact c38)
   refine rn hA 9 ?_
   refine ops_split 104 rfl (fun c91=> ?_) (fun c91=> ?_)
   ·
    refine rz hA 5 ?_
    refine gc (fun c92=> ?_) (fun c92=> ?_)
    ·
     have j1:a3≠0:=neq_t hA c92
     refine gx hA 1 ?_
     refine rt (gt ?_)
     refine congrArg PV.bool ?_
     try simp only[lT] at *
     have hK:=c6
     rw[a1] at hK
     simp only[inR,Bool.and_eq_true,decide_eq_true_eq,decide_eq_false_iff_not] at hK
     subst e2 c2 b8 a4 a1
     subst hA
     simp[recOk,std,ieq_dec,Bool.and_assoc,hK,c6,c11,a2,a2.symm,a5,a5.symm,c65,b1,c72,c78,c84,c85,c87,c88,g7,c90,c91,j1,j1.symm]
    have j1:a3=0:=neq_f hA c92
    refine gk (gs (gx hA 3 ?_))
    refine gc (fun c93=> ?_) (fun c93=> ?_)
    ·
     exact no_t c93 (show(A.cmp .eql a0 3)=false from by exact c12)
    refine gk (gx hA 4 ?_)
    refine rt (gt ?_)
    show _=(PV.bool (A.scmp .eql b0 (ByteArray.mk #[])))
    refine congrArg PV.bool ?_
    try simp only[lT] at *
    have hK:=c6
    rw[a1] at hK
    simp only[inR,Bool.and_eq_true,decide_eq_true_eq,decide_eq_false_iff_not] at hK
    subst e2 c2 b8 a4 a1
    subst hA
    simp[recOk,std,pvEqL,pvEq,empE,Bool.beq_eq_decide_eq,ieq_dec,tl_nilE,Bool.and_assoc,hK,c6,c11,a2,a2.symm,a5,a5.symm,c65,b1,c72,c78,c84,c85,c87,c88,g7,c90,c91,j1]
   exact absurd (show(A.bnot (A.cmp .eql a0 4))=false from c91) (by rw[show(A.bnot (A.cmp .eql a0 4))=true from by rw[show(A.cmp .eql a0 4)=false from by exact c38];subst hA;rfl];decide)
  exact absurd (show(A.bnot (A.cmp .eql a0 5))=false from c88) (by rw[show(A.bnot (A.cmp .eql a0 5))=true from by rw[show(A.cmp .eql a0 5)=false from by rw[b1];subst hA;rfl];subst hA;rfl];decide)
 have b1:a0≠1:=eql_f hA c66
 refine rn hA 21 ?_
 refine ops_split 62 rfl (fun c94=> ?_) (fun c94=> ?_)
 ·
  refine rn hA 4 ?_
  refine ops_split 66 rfl (fun c95=> ?_) (fun c95=> ?_)
  ·
   have b9:a8≠(ByteArray.mk #[]):=sneq_t hA c95
   refine rz hA 11 ?_
   refine gc (fun c96=> ?_) (fun c96=> ?_)
   ·
    refine gx hA 1 ?_
    refine rt (gt ?_)
    refine congrArg PV.bool ?_
    try simp only[lT] at *
    have hK:=c6
    rw[a1] at hK
    simp only[inR,Bool.and_eq_true,decide_eq_true_eq,decide_eq_false_iff_not] at hK
    subst a4 a1
    subst hA
    simp[recOk,std,ieq_dec,Bool.and_assoc,hK,c6,c11,a2,a2.symm,a5,a5.symm,c65,b1,b1.symm,c94,b9,b9.symm]
   exact no_f c96 (show true=true from by rfl)
  have b9:a8=(ByteArray.mk #[]):=sneq_f hA c95
  refine rn hA 5 ?_
  refine ops_split 71 rfl (fun c97=> ?_) (fun c97=> ?_)
  ·
   have c0:a7≠(ByteArray.mk #[]):=sneq_t hA c97
   refine rz hA 6 ?_
   refine gc (fun c98=> ?_) (fun c98=> ?_)
   ·
    refine gx hA 1 ?_
    refine rt (gt ?_)
    refine congrArg PV.bool ?_
    try simp only[lT] at *
    have hK:=c6
    rw[a1] at hK
    simp only[inR,Bool.and_eq_true,decide_eq_true_eq,decide_eq_false_iff_not] at hK
    subst a4 a1
    subst hA
    simp[recOk,std,ieq_dec,Bool.and_assoc,hK,c6,c11,a2,a2.symm,a5,a5.symm,c65,b1,b1.symm,c94,b9,c0,c0.symm]
   exact no_f c98 (show true=true from by rfl)
  have c0:a7=(ByteArray.mk #[]):=sneq_f hA c97
  refine rz hA 6 ?_
  refine gc (fun c99=> ?_) (fun c99=> ?_)
  ·
   have d2:a9≠0:=neq_t hA c99
   refine gx hA 1 ?_
   refine rt (gt ?_)
   refine congrArg PV.bool ?_
   try simp only[lT] at *
   have hK:=c6
   rw[a1] at hK
   simp only[inR,Bool.and_eq_true,decide_eq_true_eq,decide_eq_false_iff_not] at hK
   subst a4 a1
   subst hA
   simp[recOk,std,ieq_dec,Bool.and_assoc,hK,c6,c11,a2,a2.symm,a5,a5.symm,c65,b1,b1.symm,c94,b9,c0,d2,d2.symm]
  have d2:a9=0:=neq_f hA c99
  refine gk (gs (gs (gr (rn hA 2 ?_))))
  refine ops_split 79 rfl (fun g0=> ?_) (fun g0=> ?_)
  ·
   have b6:a0=5:=eql_t hA g0
   refine rn hA 2 ?_
   obtain⟨d0,e5,k8⟩:∃(d0:Bool),d0=(inR a6 1 9999)∧Real Tryz.prog 86 [.ii a6,.ii 1,.ii 9999] (.bool d0):=⟨_,rfl,by exact r_spec_l01In A hA a6 1 9999⟩
   refine ops_callG rfl rfl rfl rfl (by cbv) (by cbv) k8 (.inr rfl) (by cbv) ?_
   refine rn hA 3 ?_
   refine ops_split 85 rfl (fun j9=> ?_) (fun j9=> ?_)
   ·
    have n6:d0=false:=bnot_t hA j9
    refine rz hA 8 ?_
    refine gc (fun k5=> ?_) (fun k5=> ?_)
    ·
     refine gx hA 1 ?_
     refine rt (gt ?_)
     refine congrArg PV.bool ?_
     try simp only[lT] at *
     have hK:=c6
     rw[a1] at hK
     simp only[inR,Bool.and_eq_true,decide_eq_true_eq,decide_eq_false_iff_not] at hK
     subst e5 a4 a1
     subst hA
     simp[recOk,std,ieq_dec,Bool.and_assoc,hK,c6,c11,a2,a2.symm,a5,a5.symm,c65,b1,b1.symm,c94,b9,c0,d2,b6,n6]
    exact no_f k5 (show true=true from by rfl)
   have k6:d0=true:=bnot_f hA j9
   refine rn hA 3 ?_
   refine ops_split 88 rfl (fun j5=> ?_) (fun j5=> ?_)
   ·
    exact absurd (show(A.bnot (A.cmp .eql a0 5))=true from j5) (by rw[show(A.bnot (A.cmp .eql a0 5))=false from by rw[show(A.cmp .eql a0 5)=true from by exact g0];subst hA;rfl];decide)
   refine rz hA 5 ?_
   refine gc (fun k4=> ?_) (fun k4=> ?_)
   ·
    exact no_t k4 (show false=false from by rfl)
   refine gk (gs (gs (gr (rn hA 2 ?_))))
   refine ops_split 95 rfl (fun j6=> ?_) (fun j6=> ?_)
   ·
    exact no_t j6 (show(A.cmp .eql a0 4)=false from by exact c38)
   refine rn hA 9 ?_
   refine ops_split 104 rfl (fun i8=> ?_) (fun i8=> ?_)
   ·
    refine rz hA 5 ?_
    refine gc (fun k0=> ?_) (fun k0=> ?_)
    ·
     have f7:a3≠0:=neq_t hA k0
     refine gx hA 1 ?_
     refine rt (gt ?_)
     refine congrArg PV.bool ?_
     try simp only[lT] at *
     have hK:=c6
     rw[a1] at hK
     simp only[inR,Bool.and_eq_true,decide_eq_true_eq,decide_eq_false_iff_not] at hK
     subst e5 a4 a1
     subst hA
     simp[recOk,std,ieq_dec,Bool.and_assoc,hK,c6,c11,a2,a2.symm,a5,a5.symm,c65,b1,b1.symm,c94,b9,c0,d2,b6,k6,j5,j6,i8,f7,f7.symm]
    have f7:a3=0:=neq_f hA k0
    refine gk (gs (gx hA 3 ?_))
    refine gc (fun k2=> ?_) (fun k2=> ?_)
    ·
     exact no_t k2 (show(A.cmp .eql a0 3)=false from by exact c12)
    refine gk (gx hA 4 ?_)
    refine rt (gt ?_)
    show _=(PV.bool (A.scmp .eql b0 (ByteArray.mk #[])))
    refine congrArg PV.bool ?_
    try simp only[lT] at *
    have hK:=c6
    rw[a1] at hK
    simp only[inR,Bool.and_eq_true,decide_eq_true_eq,decide_eq_false_iff_not] at hK
    subst e5 a4 a1
    subst hA
    simp[recOk,std,pvEqL,pvEq,empE,Bool.beq_eq_decide_eq,ieq_dec,tl_nilE,Bool.and_assoc,hK,c6,c11,a2,a2.symm,a5,a5.symm,c65,b1,b1.symm,c94,b9,c0,d2,b6,k6,j5,j6,i8,f7]
   exact absurd (show(A.bnot (A.cmp .eql a0 4))=false from i8) (by rw[show(A.bnot (A.cmp .eql a0 4))=true from by rw[show(A.cmp .eql a0 4)=false from by exact c38];subst hA;rfl];decide)
  have b6:a0≠5:=eql_f hA g0
  refine rn hA 9 ?_
  refine ops_split 88 rfl (fun g5=> ?_) (fun g5=> ?_)
  ·
   refine rz hA 5 ?_
   refine gc (fun k1=> ?_) (fun k1=> ?_)
   ·
    have e7:a6≠0:=neq_t hA k1
    refine gx hA 1 ?_
    refine rt (gt ?_)
    refine congrArg PV.bool ?_
    try simp only[lT] at *
    have hK:=c6
    rw[a1] at hK
    simp only[inR,Bool.and_eq_true,decide_eq_true_eq,decide_eq_false_iff_not] at hK
    have n2:a0=2:=by omega
    subst a4 a1
    subst hA
    simp[recOk,std,ieq_dec,Bool.and_assoc,n2,c6,c11,a2,a2.symm,a5,a5.symm,c65,b1,b1.symm,c94,b9,c0,d2,b6,b6.symm,g5,e7,e7.symm]
   have e7:a6=0:=neq_f hA k1
   refine gk (gs (gs (gr (rn hA 2 ?_))))
   refine ops_split 95 rfl (fun j3=> ?_) (fun j3=> ?_)
   ·
    exact no_t j3 (show(A.cmp .eql a0 4)=false from by exact c38)
   refine rn hA 9 ?_
   refine ops_split 104 rfl (fun i7=> ?_) (fun i7=> ?_)
   ·
    refine rz hA 5 ?_
    refine gc (fun j7=> ?_) (fun j7=> ?_)
    ·
     have f6:a3≠0:=neq_t hA j7
     refine gx hA 1 ?_
     refine rt (gt ?_)
     refine congrArg PV.bool ?_
     try simp only[lT] at *
     have hK:=c6
     rw[a1] at hK
     simp only[inR,Bool.and_eq_true,decide_eq_true_eq,decide_eq_false_iff_not] at hK
     have n2:a0=2:=by omega
     subst a4 a1
     subst hA
     simp[recOk,std,ieq_dec,Bool.and_assoc,n2,c6,c11,a2,a2.symm,a5,a5.symm,c65,b1,b1.symm,c94,b9,c0,d2,b6,b6.symm,g5,e7,j3,i7,f6,f6.symm]
    have f6:a3=0:=neq_f hA j7
    refine gk (gs (gx hA 3 ?_))
    refine gc (fun k3=> ?_) (fun k3=> ?_)
    ·
     exact no_t k3 (show(A.cmp .eql a0 3)=false from by exact c12)
    refine gk (gx hA 4 ?_)
    refine rt (gt ?_)
    show _=(PV.bool (A.scmp .eql b0 (ByteArray.mk #[])))
    refine congrArg PV.bool ?_
    try simp only[lT] at *
    have hK:=c6
    rw[a1] at hK
    simp only[inR,Bool.and_eq_true,decide_eq_true_eq,decide_eq_false_iff_not] at hK
    have n2:a0=2:=by omega
    subst a4 a1
    subst hA
    simp[recOk,std,pvEqL,pvEq,empE,Bool.beq_eq_decide_eq,ieq_dec,tl_nilE,Bool.and_assoc,n2,c6,c11,a2,a2.symm,a5,a5.symm,c65,b1,b1.symm,c94,b9,c0,d2,b6,b6.symm,g5,e7,j3,i7,f6]
   exact absurd (show(A.bnot (A.cmp .eql a0 4))=false from i7) (by rw[show(A.bnot (A.cmp .eql a0 4))=true from by rw[show(A.cmp .eql a0 4)=false from by exact c38];subst hA;rfl];decide)
  exact absurd (show(A.bnot (A.cmp .eql a0 5))=false from g5) (by rw[show(A.bnot (A.cmp .eql a0 5))=true from by rw[show(A.cmp .eql a0 5)=false from by exact g0];subst hA;rfl];decide)
 exact absurd (show(A.bnot (A.cmp .eql a0 1))=false from c94) (by rw[show(A.bnot (A.cmp .eql a0 1))=true from by rw[show(A.cmp .eql a0 1)=false from by exact c66];subst hA;rfl];decide)
end Go.Av
