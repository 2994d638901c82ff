/- Walks: the reference on records as texts. -/
import Derived.Test.YtjbokkoiicoahaaGreatDoorO3
namespace Go.Av
open Go Go.Proofs
set_option maxRecDepth 100000
set_option maxHeartbeats 4000000
set_option linter.unusedVariables false
set_option linter.unusedSimpArgs false
theorem r_spec_l06Short (A:Alg)(hA:A=std)(t:ByteArray)(hz:ByteArray.size t≤1048576):Real Tryz.prog 121 [.str t] (.str (strOfNums (vtR A (ByteArray.size t:Int))++t)):=by
 refine real_args (args':=[.str t]) (by rfl) ?_
 have zt:=slen_eq hA t
 refine real tyOk Tryz.func121 (by kernel_rfl) (afun_of rfl ?_)
 refine gx hA 1 ?_
 refine gs (gr (rn hA 2 ?_))
 obtain⟨q0,t3,hc2⟩:∃(q0:ByteArray),q0=(strOfNums (vtR A (A.slen t)))∧Real Tryz.prog 120 [.ii (A.slen t)] (.str q0):=⟨_,rfl,by exact r_spec_l01Var A hA (A.slen t) (by omega) (by omega)⟩
 have x5:ByteArray.size q0≤5:=by rw[t3,strN_size,vtR_len];exact vln_le _ (by omega)
 refine cvw hc2 (.inr rfl) ?_
 refine rn hA 1 ?_
 obtain⟨s3,hs3⟩:=nm (q0++t:ByteArray)
 have zs3:ByteArray.size s3=ByteArray.size q0+ByteArray.size t:=by rw[hs3];exact ByteArray.size_append
 have bs3:ByteArray.size q0+ByteArray.size t≤140737488355328:=by
  omega
 refine ops_step rfl rfl (str_add rfl rfl rfl hs3 bs3) ?_
 refine rz hA 1 ?_
 refine rt (gt ?_)
 refine congrArg PV.str ?_
 rw[hs3,t3,zt]
theorem r_spec_RecText (A:Alg)(hA:A=std)(r:GRec)(hz:∀ q∈zsRec r,q≤1048576):Real Tryz.prog 83 [.agg (eRec r)] (.tup [.str (recT A (vtR A) r),.bool (recOk r)]):=by
 obtain⟨f5,g5,l7,j7,g7,j4,j2,j3⟩:=r
 refine real_args (args':=[.agg [.ii f5,.ii g5,.ii l7,.ii j7,.ii g7,.str j4,.str j2,.str j3]]) (by rfl) ?_
 have zUser:ByteArray.size j4≤1048576:=hz _ (by simp[zsRec])
 have zName:ByteArray.size j2≤1048576:=hz _ (by simp[zsRec])
 have zText:ByteArray.size j3≤1048576:=hz _ (by simp[zsRec])
 have yUser:=slen_eq hA j4
 have yName:=slen_eq hA j2
 have yText:=slen_eq hA j3
 have zR:∀ q∈zsRec (⟨f5,g5,l7,j7,g7,j4,j2,j3⟩:GRec),(q:Int)≤4611686018427387904:=fun q hq=>by have:=hz q hq;omega
 refine real tyOk Tryz.func83 (by kernel_rfl) (afun_of rfl ?_)
 refine gx hA 3 ?_
 refine gs (gs (gr (rn hA 1 ?_)))
 obtain⟨q0,t3,hc2⟩:∃(q0:Bool),q0=(recOk (⟨f5,g5,l7,j7,g7,j4,j2,j3⟩:GRec))∧Real Tryz.prog 87 [.agg [.ii f5,.ii g5,.ii l7,.ii j7,.ii g7,.str j4,.str j2,.str j3]] (.bool q0):=⟨_,rfl,by exact r_spec_RecOk A hA (⟨f5,g5,l7,j7,g7,j4,j2,j3⟩:GRec) zR⟩
 refine cvw hc2 (.inr rfl) ?_
 refine rz hA 1 ?_
 refine gc (fun c3=> ?_) (fun c3=> ?_)
 ·
  have c4:q0=false:=bnot_t hA c3
  refine gx hA 2 ?_
  refine rt (gt ?_)
  show _=PV.tup [.str (ByteArray.mk #[]),.bool false]
  have E:recOk (⟨f5,g5,l7,j7,g7,j4,j2,j3⟩:GRec)=false:=by rw[← t3,c4]
  have E2:recT A (vtR A) (⟨f5,g5,l7,j7,g7,j4,j2,j3⟩:GRec)=ByteArray.mk #[]:=by rw[recT,E];rfl
  rw[E,E2]
 have c5:q0=true:=bnot_f hA c3
 refine gk (gs ?_)
 have E:recOk (⟨f5,g5,l7,j7,g7,j4,j2,j3⟩:GRec)=true:=by rw[← t3,c5]
 have hg:=rec_rng E
 have hg:(0≤g5∧g5≤10000)∧(0≤l7∧l7≤10000)∧(0≤j7∧j7≤10000)∧(0≤g7∧g7≤10000):=hg
 have zB:=ofB1_size hA (A.cnv .u8 f5)
 obtain⟨r2,u9,hc7⟩:∃(r2:ByteArray),r2=(strOfNums (vtR A g5))∧Real Tryz.prog 120 [.ii g5] (.str r2):=⟨_,rfl,by exact r_spec_l01Var A hA g5 (by omega) (by omega)⟩
 have x3:ByteArray.size r2≤5:=by rw[u9,strN_size,vtR_len];exact vln_le _ (by omega)
 obtain⟨s8,hs8⟩:=nm ((A.ofB [[.int .u8 (A.cnv .u8 f5)]])++r2:ByteArray)
 have zs8:ByteArray.size s8=ByteArray.size (A.ofB [[.int .u8 (A.cnv .u8 f5)]])+ByteArray.size r2:=by rw[hs8];exact ByteArray.size_append
 have bs8:ByteArray.size (A.ofB [[.int .u8 (A.cnv .u8 f5)]])+ByteArray.size r2≤140737488355328:=by
  omega
 obtain⟨r1,u7,w1⟩:∃(r1:ByteArray),r1=(strOfNums (vtR A l7))∧Real Tryz.prog 120 [.ii l7] (.str r1):=⟨_,rfl,by exact r_spec_l01Var A hA l7 (by omega) (by omega)⟩
 have x4:ByteArray.size r1≤5:=by rw[u7,strN_size,vtR_len];exact vln_le _ (by omega)
 obtain⟨s11,v4⟩:=nm (s8++r1:ByteArray)
 have x6:ByteArray.size s11=ByteArray.size s8+ByteArray.size r1:=by rw[v4];exact ByteArray.size_append
 have x1:ByteArray.size s8+ByteArray.size r1≤140737488355328:=by
  omega
 obtain⟨q2,t7,v6⟩:∃(q2:ByteArray),q2=(strOfNums (vtR A j7))∧Real Tryz.prog 120 [.ii j7] (.str q2):=⟨_,rfl,by exact r_spec_l01Var A hA j7 (by omega) (by omega)⟩
 have w4:ByteArray.size q2≤5:=by rw[t7,strN_size,vtR_len];exact vln_le _ (by omega)
 obtain⟨s14,v5⟩:=nm (s11++q2:ByteArray)
 have x7:ByteArray.size s14=ByteArray.size s11+ByteArray.size q2:=by rw[v5];exact ByteArray.size_append
 have w2:ByteArray.size s11+ByteArray.size q2≤140737488355328:=by
  omega
 obtain⟨q1,t6,v9⟩:∃(q1:ByteArray),q1=(strOfNums (vtR A g7))∧Real Tryz.prog 120 [.ii g7] (.str q1):=⟨_,rfl,by exact r_spec_l01Var A hA g7 (by omega) (by omega)⟩
 have w8:ByteArray.size q1≤5:=by rw[t6,strN_size,vtR_len];exact vln_le _ (by omega)
 obtain⟨s17,v2⟩:=nm (s14++q1:ByteArray)
 have y1:ByteArray.size s17=ByteArray.size s14+ByteArray.size q1:=by rw[v2];exact ByteArray.size_append
 have w3:ByteArray.size s14+ByteArray.size q1≤140737488355328:=by
  omega
 obtain⟨q4,t4,v8⟩:∃(q4:ByteArray),q4=(strOfNums (vtR A (ByteArray.size j4:Int))++j4)∧Real Tryz.prog 121 [.str j4] (.str q4):=⟨_,rfl,by exact r_spec_l06Short A hA j4 (by omega)⟩
 have w6:ByteArray.size q4≤1048600:=by rw[t4,ByteArray.size_append,strN_size,vtR_len];have:=vln_le (ByteArray.size j4:Int) (by omega);omega
 obtain⟨s20,v0⟩:=nm (s17++q4:ByteArray)
 have x8:ByteArray.size s20=ByteArray.size s17+ByteArray.size q4:=by rw[v0];exact ByteArray.size_append
 have w7:ByteArray.size s17+ByteArray.size q4≤140737488355328:=by
  omega
 obtain⟨q3,t5,v7⟩:∃(q3:ByteArray),q3=(strOfNums (vtR A (ByteArray.size j2:Int))++j2)∧Real Tryz.prog 121 [.str j2] (.str q3):=⟨_,rfl,by exact r_spec_l06Short A hA j2 (by omega)⟩
 have w9:ByteArray.size q3≤1048600:=by rw[t5,ByteArray.size_append,strN_size,vtR_len];have:=vln_le (ByteArray.size j2:Int) (by omega);omega
 obtain⟨s23,v3⟩:=nm (s20++q3:ByteArray)
 have x9:ByteArray.size s23=ByteArray.size s20+ByteArray.size q3:=by rw[v3];exact ByteArray.size_append
 have x2:ByteArray.size s20+ByteArray.size q3≤140737488355328:=by
  omega
 obtain⟨q5,t8,w0⟩:∃(q5:ByteArray),q5=(strOfNums (vtR A (ByteArray.size j3:Int))++j3)∧Real Tryz.prog 121 [.str j3] (.str q5):=⟨_,rfl,by exact r_spec_l06Short A hA j3 (by omega)⟩
 have x0:ByteArray.size q5≤1048600:=by rw[t8,ByteArray.size_append,strN_size,vtR_len];have:=vln_le (ByteArray.size j3:Int) (by omega);omega
 obtain⟨s26,v1⟩:=nm (s23++q5:ByteArray)
 have y0:ByteArray.size s26=ByteArray.size s23+ByteArray.size q5:=by rw[v1];exact ByteArray.size_append
 have w5:ByteArray.size s23+ByteArray.size q5≤140737488355328:=by
  omega
 refine go_drawE [0,1,2,3,4,5,6,7,8,9,10,11,12,13,14,15,16,17,18,19,20,21,22,23,24,25,26,27,28,29,30,31,32,33,34] (by cbv) rfl rfl ({sl:=[.agg [.ii f5,.ii g5,.ii l7,.ii j7,.ii g7,.str j4,.str j2,.str j3],.pt 1 0 0,.str s26,.bool true,.agg [.ii f5,.ii g5,.ii l7,.ii j7,.ii g7,.str j4,.str j2,.str j3],.bool q0,.bool (A.bnot q0),.pt 1 0 0,.ii f5,.int .u8 (A.cnv .u8 f5),.own 10,.str (A.ofB [[.int .u8 (A.cnv .u8 f5)]]),.pt 1 0 1,.ii g5,.str r2,.str s8,.pt 1 0 2,.ii l7,.str r1,.str s11,.pt 1 0 3,.ii j7,.str q2,.str s14,.pt 1 0 4,.ii g7,.str q1,.str s17,.pt 1 0 5,.str j4,.str q4,.str s20,.pt 1 0 6,.str j2,.str q3,.str s23,.pt 1 0 7,.str j3,.str q5,.str s26],bl:=[(1,⟨.var,8,[[.ii f5,.ii g5,.ii l7,.ii j7,.ii g7,.str j4,.str j2,.str j3]]⟩),(10,⟨.lit,1,[[.int .u8 (A.cnv .u8 f5)]]⟩)]}:St) (fun dR dK dhR dhF=> ?_) ?_
 ·
  have H_3:∀(dn:Nat) {dB4 dB5 dB6 dB7 dB8 dB9 o9 n5 q8 p7 p1 n8 r0 p5 o8 n6 q6 p8 o6 n7 q9 p9 p2 n9 q7 p6 p0 o7 r3 k2 k6:Bool} {dQ4 dQ5 dQ6 dQ7 dQ8 dQ9 r5 r6 u6 t0 s0 s6 u4 r7 r4 s5 t9 r9 s4 r8 u2 s1 t2 s2 u5 s7 t1 s9 u3 u1 u0:PV},(dB4=true→dQ4=.str (A.ofB [[.int .u8 (A.cnv .u8 f5)]]))→(dB5=true→dQ5=.pt 1 0 1)→(dB6=true→dQ6=.ii g5)→(dB7=true→dQ7=.str r2)→(dB8=true→dQ8=.str s8)→(dB9=true→dQ9=.pt 1 0 2)→(o9=true→r5=.ii l7)→(n5=true→r6=.str r1)→(q8=true→u6=.str s11)→(p7=true→t0=.pt 1 0 3)→(p1=true→s0=.ii j7)→(n8=true→s6=.str q2)→(r0=true→u4=.str s14)→(p5=true→r7=.pt 1 0 4)→(o8=true→r4=.ii g7)→(n6=true→s5=.str q1)→(q6=true→t9=.str s17)→(p8=true→r9=.pt 1 0 5)→(o6=true→s4=.str j4)→(n7=true→r8=.str q4)→(q9=true→u2=.str s20)→(p9=true→s1=.pt 1 0 6)→(p2=true→t2=.str j2)→(n9=true→s2=.str q3)→(q7=true→u5=.str s23)→(p6=true→s7=.pt 1 0 7)→(p0=true→t1=.str j3)→(o7=true→s9=.str q5)→(r3=true→u3=.str s26)→(k2=true→u1=.str s26)→(k6=true→u0=.bool true)→(dB6=true→dB5=true)→(dB7=true→dB6=true)→(dB8=true→dB4=true)→(dB8=true→dB7=true)→(o9=true→dB9=true)→(n5=true→o9=true)→(n5=true→dB7=true)→(q8=true→dB8=true)→(q8=true→n5=true)→(p1=true→p7=true)→(n8=true→p1=true)→(n8=true→n5=true)→(r0=true→q8=true)→(r0=true→n8=true)→(o8=true→p5=true)→(n6=true→o8=true)→(n6=true→n8=true)→(q6=true→r0=true)→(q6=true→n6=true)→(o6=true→p8=true)→(n7=true→o6=true)→(n7=true→n6=true)→(q9=true→q6=true)→(q9=true→n7=true)→(p2=true→p9=true)→(n9=true→p2=true)→(n9=true→n7=true)→(q7=true→q9=true)→(q7=true→n9=true)→(p0=true→p6=true)→(o7=true→p0=true)→(o7=true→n9=true)→(r3=true→q7=true)→(r3=true→o7=true)→(k2=true→r3=true)→(k2=true→o7=true)→(k2=true→dB4=true)→(k2=true→dB5=true)→(k2=true→dB6=true)→(k2=true→dB7=true)→(k2=true→dB8=true)→(k2=true→dB9=true)→(k2=true→o9=true)→(k2=true→n5=true)→(k2=true→q8=true)→(k2=true→p7=true)→(k2=true→p1=true)→(k2=true→n8=true)→(k2=true→r0=true)→(k2=true→p5=true)→(k2=true→o8=true)→(k2=true→n6=true)→(k2=true→q6=true)→(k2=true→p8=true)→(k2=true→o6=true)→(k2=true→n7=true)→(k2=true→q9=true)→(k2=true→p9=true)→(k2=true→p2=true)→(k2=true→n9=true)→(k2=true→q7=true)→(k2=true→p6=true)→(k2=true→p0=true)→(k6=true→k2=true)→(k6=true→dB4=true)→(k6=true→dB5=true)→(k6=true→dB6=true)→(k6=true→dB7=true)→(k6=true→dB8=true)→(k6=true→dB9=true)→(k6=true→o9=true)→(k6=true→n5=true)→(k6=true→q8=true)→(k6=true→p7=true)→(k6=true→p1=true)→(k6=true→n8=true)→(k6=true→r0=true)→(k6=true→p5=true)→(k6=true→o8=true)→(k6=true→n6=true)→(k6=true→q6=true)→(k6=true→p8=true)→(k6=true→o6=true)→(k6=true→n7=true)→(k6=true→q9=true)→(k6=true→p9=true)→(k6=true→p2=true)→(k6=true→n9=true)→(k6=true→q7=true)→(k6=true→p6=true)→(k6=true→p0=true)→(k6=true→o7=true)→(k6=true→r3=true)→cntF [true,true,true,true,dB4,dB5,dB6,dB7,dB8,dB9,o9,n5,q8,p7,p1,n8,r0,p5,o8,n6,q6,p8,o6,n7,q9,p9,p2,n9,q7,p6,p0,o7,r3,k2,k6]=dn→dwp T ⟨Real Tryz.prog,RealM Tryz.prog,RealC Tryz.prog⟩ dR dK dn [true,true,true,true,dB4,dB5,dB6,dB7,dB8,dB9,o9,n5,q8,p7,p1,n8,r0,p5,o8,n6,q6,p8,o6,n7,q9,p9,p2,n9,q7,p6,p0,o7,r3,k2,k6] ({sl:=[.agg [.ii f5,.ii g5,.ii l7,.ii j7,.ii g7,.str j4,.str j2,.str j3],.pt 1 0 0,u1,u0,.agg [.ii f5,.ii g5,.ii l7,.ii j7,.ii g7,.str j4,.str j2,.str j3],.bool q0,.bool (A.bnot q0),.pt 1 0 0,.ii f5,.int .u8 (A.cnv .u8 f5),.own 10,dQ4,dQ5,dQ6,dQ7,dQ8,dQ9,r5,r6,u6,t0,s0,s6,u4,r7,r4,s5,t9,r9,s4,r8,u2,s1,t2,s2,u5,s7,t1,s9,u3],bl:=[(1,⟨.var,8,[[.ii f5,.ii g5,.ii l7,.ii j7,.ii g7,.str j4,.str j2,.str j3]]⟩),(10,⟨.lit,1,[[.int .u8 (A.cnv .u8 f5)]]⟩)]}:St):=by
   intro dn
   induction dn with
   | zero=>
    intro dB4 dB5 dB6 dB7 dB8 dB9 o9 n5 q8 p7 p1 n8 r0 p5 o8 n6 q6 p8 o6 n7 q9 p9 p2 n9 q7 p6 p0 o7 r3 k2 k6 dQ4 dQ5 dQ6 dQ7 dQ8 dQ9 r5 r6 u6 t0 s0 s6 u4 r7 r4 s5 t9 r9 s4 r8 u2 s1 t2 s2 u5 s7 t1 s9 u3 u1 u0 dh4 dh5 dh6 dh7 dh8 dh9 d2 d6 m7 c6 c1 d7 m3 d4 c2 c8 m9 d5 c0 d3 m4 d1 d0 d9 m8 c9 d8 c7 m2 m5 m6 b8 b9 k3 n4 b6 a7 b7 i0 i2 b0 a6 b5 e1 g3 a2 a5 b4 e5 f9 a9 a4 b3 e3 f2 a8 a0 b2 e4 e9 a1 a3 b1 e6 e7 e0 f1 l5 p3 o5 o3 l2 o1 n1 l8 j0 m0 l3 l0 i1 k9 k4 j8 g9 k1 j6 i7 f8 i8 i5 g6 f3 g2 f7 e2 l6 p4 o4 o0 l1 o2 n0 m1 i9 l9 l4 k7 i4 k8 k5 j9 g1 k0 j5 j1 g0 i6 i3 g4 f0 g8 f6 f4 e8 dhn
    have y4:dB4=true:=cntF_zero _ dhn 4 (by show 4 < 35;decide)
    subst y4
    have y4:=dh4 rfl
    subst y4
    have y5:dB5=true:=cntF_zero _ dhn 5 (by show 5 < 35;decide)
    subst y5
    have y5:=dh5 rfl
    subst y5
    have y6:dB6=true:=cntF_zero _ dhn 6 (by show 6 < 35;decide)
    subst y6
    have y6:=dh6 rfl
    subst y6
    have y7:dB7=true:=cntF_zero _ dhn 7 (by show 7 < 35;decide)
    subst y7
    have y7:=dh7 rfl
    subst y7
    have y8:dB8=true:=cntF_zero _ dhn 8 (by show 8 < 35;decide)
    subst y8
    have y8:=dh8 rfl
    subst y8
    have y9:dB9=true:=cntF_zero _ dhn 9 (by show 9 < 35;decide)
    subst y9
    have y9:=dh9 rfl
    subst y9
    have y10:o9=true:=cntF_zero _ dhn 10 (by show 10 < 35;decide)
    subst y10
    have y10:=d2 rfl
    subst y10
    have y11:n5=true:=cntF_zero _ dhn 11 (by show 11 < 35;decide)
    subst y11
    have y11:=d6 rfl
    subst y11
    have y12:q8=true:=cntF_zero _ dhn 12 (by show 12 < 35;decide)
    subst y12
    have y12:=m7 rfl
    subst y12
    have y13:p7=true:=cntF_zero _ dhn 13 (by show 13 < 35;decide)
    subst y13
    have y13:=c6 rfl
    subst y13
    have y14:p1=true:=cntF_zero _ dhn 14 (by show 14 < 35;decide)
    subst y14
    have y14:=c1 rfl
    subst y14
    have y15:n8=true:=cntF_zero _ dhn 15 (by show 15 < 35;decide)
    subst y15
    have y15:=d7 rfl
    subst y15
    have y16:r0=true:=cntF_zero _ dhn 16 (by show 16 < 35;decide)
    subst y16
    have y16:=m3 rfl
    subst y16
    have y17:p5=true:=cntF_zero _ dhn 17 (by show 17 < 35;decide)
    subst y17
    have y17:=d4 rfl
    subst y17
    have y18:o8=true:=cntF_zero _ dhn 18 (by show 18 < 35;decide)
    subst y18
    have y18:=c2 rfl
    subst y18
    have y19:n6=true:=cntF_zero _ dhn 19 (by show 19 < 35;decide)
    subst y19
    have y19:=c8 rfl
    subst y19
    have y20:q6=true:=cntF_zero _ dhn 20 (by show 20 < 35;decide)
    subst y20
    have y20:=m9 rfl
    subst y20
    have y21:p8=true:=cntF_zero _ dhn 21 (by show 21 < 35;decide)
    subst y21
    have y21:=d5 rfl
    subst y21
    have y22:o6=true:=cntF_zero _ dhn 22 (by show 22 < 35;decide)
    subst y22
    have y22:=c0 rfl
    subst y22
    have y23:n7=true:=cntF_zero _ dhn 23 (by show 23 < 35;decide)
    subst y23
    have y23:=d3 rfl
    subst y23
    have y24:q9=true:=cntF_zero _ dhn 24 (by show 24 < 35;decide)
    subst y24
    have y24:=m4 rfl
    subst y24
    have y25:p9=true:=cntF_zero _ dhn 25 (by show 25 < 35;decide)
    subst y25
    have y25:=d1 rfl
    subst y25
    have y26:p2=true:=cntF_zero _ dhn 26 (by show 26 < 35;decide)
    subst y26
    have y26:=d0 rfl
    subst y26
    have y27:n9=true:=cntF_zero _ dhn 27 (by show 27 < 35;decide)
    subst y27
    have y27:=d9 rfl
    subst y27
    have y28:q7=true:=cntF_zero _ dhn 28 (by show 28 < 35;decide)
    subst y28
    have y28:=m8 rfl
    subst y28
    have y29:p6=true:=cntF_zero _ dhn 29 (by show 29 < 35;decide)
    subst y29
    have y29:=c9 rfl
    subst y29
    have y30:p0=true:=cntF_zero _ dhn 30 (by show 30 < 35;decide)
    subst y30
    have y30:=d8 rfl
    subst y30
    have y31:o7=true:=cntF_zero _ dhn 31 (by show 31 < 35;decide)
    subst y31
    have y31:=c7 rfl
    subst y31
    have y32:r3=true:=cntF_zero _ dhn 32 (by show 32 < 35;decide)
    subst y32
    have y32:=m2 rfl
    subst y32
    have y33:k2=true:=cntF_zero _ dhn 33 (by show 33 < 35;decide)
    subst y33
    have y33:=m5 rfl
    subst y33
    have y34:k6=true:=cntF_zero _ dhn 34 (by show 34 < 35;decide)
    subst y34
    have y34:=m6 rfl
    subst y34
    exact dwp_last dhF
   | succ dn ih=>
    intro dB4 dB5 dB6 dB7 dB8 dB9 o9 n5 q8 p7 p1 n8 r0 p5 o8 n6 q6 p8 o6 n7 q9 p9 p2 n9 q7 p6 p0 o7 r3 k2 k6 dQ4 dQ5 dQ6 dQ7 dQ8 dQ9 r5 r6 u6 t0 s0 s6 u4 r7 r4 s5 t9 r9 s4 r8 u2 s1 t2 s2 u5 s7 t1 s9 u3 u1 u0 dh4 dh5 dh6 dh7 dh8 dh9 d2 d6 m7 c6 c1 d7 m3 d4 c2 c8 m9 d5 c0 d3 m4 d1 d0 d9 m8 c9 d8 c7 m2 m5 m6 b8 b9 k3 n4 b6 a7 b7 i0 i2 b0 a6 b5 e1 g3 a2 a5 b4 e5 f9 a9 a4 b3 e3 f2 a8 a0 b2 e4 e9 a1 a3 b1 e6 e7 e0 f1 l5 p3 o5 o3 l2 o1 n1 l8 j0 m0 l3 l0 i1 k9 k4 j8 g9 k1 j6 i7 f8 i8 i5 g6 f3 g2 f7 e2 l6 p4 o4 o0 l1 o2 n0 m1 i9 l9 l4 k7 i4 k8 k5 j9 g1 k0 j5 j1 g0 i6 i3 g4 f0 g8 f6 f4 e8 dhn
    subst dhR
    refine dwp_next (is:=[0,1,2,3,4,5,6,7,8,9,10,11,12,13,14,15,16,17,18,19,20,21,22,23,24,25,26,27,28,29,30,31,32,33,34]) rfl ?_
    refine an ?_
    refine an ?_
    refine an ?_
    refine an ?_
    refine aq (fun h0 h1=> ?_) ?_
    ·
     cases (show dB4=false from h0)
     refine rn hA 1 ?_
     refine ow_ ?_
     exact ih rf dh5 dh6 dh7 dh8 dh9 d2 d6 m7 c6 c1 d7 m3 d4 c2 c8 m9 d5 c0 d3 m4 d1 d0 d9 m8 c9 d8 c7 m2 m5 m6 b8 b9 rf n4 b6 a7 b7 i0 i2 b0 a6 b5 e1 g3 a2 a5 b4 e5 f9 a9 a4 b3 e3 f2 a8 a0 b2 e4 e9 a1 a3 b1 e6 e7 e0 f1 rf p3 o5 o3 l2 o1 n1 l8 j0 m0 l3 l0 i1 k9 k4 j8 g9 k1 j6 i7 f8 i8 i5 g6 f3 g2 f7 e2 rf p4 o4 o0 l1 o2 n0 m1 i9 l9 l4 k7 i4 k8 k5 j9 g1 k0 j5 j1 g0 i6 i3 g4 f0 g8 f6 f4 e8 (cd h0 dhn)
    refine aq (fun h0 h1=> ?_) ?_
    ·
     cases (show dB5=false from h0)
     refine rn hA 1 ?_
     refine ow_ ?_
     exact ih dh4 rf dh6 dh7 dh8 dh9 d2 d6 m7 c6 c1 d7 m3 d4 c2 c8 m9 d5 c0 d3 m4 d1 d0 d9 m8 c9 d8 c7 m2 m5 m6 rf b9 k3 n4 b6 a7 b7 i0 i2 b0 a6 b5 e1 g3 a2 a5 b4 e5 f9 a9 a4 b3 e3 f2 a8 a0 b2 e4 e9 a1 a3 b1 e6 e7 e0 f1 l5 rf o5 o3 l2 o1 n1 l8 j0 m0 l3 l0 i1 k9 k4 j8 g9 k1 j6 i7 f8 i8 i5 g6 f3 g2 f7 e2 l6 rf o4 o0 l1 o2 n0 m1 i9 l9 l4 k7 i4 k8 k5 j9 g1 k0 j5 j1 g0 i6 i3 g4 f0 g8 f6 f4 e8 (cd h0 dhn)
    refine aq (fun h0 h1=> ?_) ?_
    ·
     cases (show dB6=false from h0)
     obtain rfl:dB5=true:=h1.1
     cases dh5 rfl
     refine rn hA 1 ?_
     refine ow_ ?_
     exact ih dh4 rf rf dh7 dh8 dh9 d2 d6 m7 c6 c1 d7 m3 d4 c2 c8 m9 d5 c0 d3 m4 d1 d0 d9 m8 c9 d8 c7 m2 m5 m6 rf rf k3 n4 b6 a7 b7 i0 i2 b0 a6 b5 e1 g3 a2 a5 b4 e5 f9 a9 a4 b3 e3 f2 a8 a0 b2 e4 e9 a1 a3 b1 e6 e7 e0 f1 l5 rf rf o3 l2 o1 n1 l8 j0 m0 l3 l0 i1 k9 k4 j8 g9 k1 j6 i7 f8 i8 i5 g6 f3 g2 f7 e2 l6 rf rf o0 l1 o2 n0 m1 i9 l9 l4 k7 i4 k8 k5 j9 g1 k0 j5 j1 g0 i6 i3 g4 f0 g8 f6 f4 e8 (cd h0 dhn)
    refine aq (fun h0 h1=> ?_) ?_
    ·
     cases (show dB7=false from h0)
     obtain rfl:dB6=true:=h1.1
     cases dh6 rfl;cases b8 rfl;cases dh5 rfl
     refine cvw hc7 (.inr rfl) ?_
     refine ow_ ?_
     exact ih dh4 rf rf rf dh8 dh9 d2 d6 m7 c6 c1 d7 m3 d4 c2 c8 m9 d5 c0 d3 m4 d1 d0 d9 m8 c9 d8 c7 m2 m5 m6 rf rf k3 rf b6 a7 rf i0 i2 b0 a6 b5 e1 g3 a2 a5 b4 e5 f9 a9 a4 b3 e3 f2 a8 a0 b2 e4 e9 a1 a3 b1 e6 e7 e0 f1 l5 rf rf rf l2 o1 n1 l8 j0 m0 l3 l0 i1 k9 k4 j8 g9 k1 j6 i7 f8 i8 i5 g6 f3 g2 f7 e2 l6 rf rf rf l1 o2 n0 m1 i9 l9 l4 k7 i4 k8 k5 j9 g1 k0 j5 j1 g0 i6 i3 g4 f0 g8 f6 f4 e8 (cd h0 dhn)
    refine aq (fun h0 h1=> ?_) ?_
    ·
     cases (show dB8=false from h0)
     obtain rfl:dB4=true:=h1.1
     cases dh4 rfl
     obtain rfl:dB7=true:=h1.2.1
     cases dh7 rfl;cases b9 rfl;cases dh6 rfl;cases b8 rfl;cases dh5 rfl
     refine ops_step rfl rfl (str_add rfl rfl rfl hs8 bs8) ?_
     refine ow_ ?_
     exact ih rf rf rf rf rf dh9 d2 d6 m7 c6 c1 d7 m3 d4 c2 c8 m9 d5 c0 d3 m4 d1 d0 d9 m8 c9 d8 c7 m2 m5 m6 rf rf rf rf b6 a7 rf rf i2 b0 a6 b5 e1 g3 a2 a5 b4 e5 f9 a9 a4 b3 e3 f2 a8 a0 b2 e4 e9 a1 a3 b1 e6 e7 e0 f1 rf rf rf rf rf o1 n1 l8 j0 m0 l3 l0 i1 k9 k4 j8 g9 k1 j6 i7 f8 i8 i5 g6 f3 g2 f7 e2 rf rf rf rf rf o2 n0 m1 i9 l9 l4 k7 i4 k8 k5 j9 g1 k0 j5 j1 g0 i6 i3 g4 f0 g8 f6 f4 e8 (cd h0 dhn)
    refine aq (fun h0 h1=> ?_) ?_
    ·
     cases (show dB9=false from h0)
     refine rn hA 1 ?_
     refine ow_ ?_
     exact ih dh4 dh5 dh6 dh7 dh8 rf d2 d6 m7 c6 c1 d7 m3 d4 c2 c8 m9 d5 c0 d3 m4 d1 d0 d9 m8 c9 d8 c7 m2 m5 m6 b8 b9 k3 n4 rf a7 b7 i0 i2 b0 a6 b5 e1 g3 a2 a5 b4 e5 f9 a9 a4 b3 e3 f2 a8 a0 b2 e4 e9 a1 a3 b1 e6 e7 e0 f1 l5 p3 o5 o3 l2 rf n1 l8 j0 m0 l3 l0 i1 k9 k4 j8 g9 k1 j6 i7 f8 i8 i5 g6 f3 g2 f7 e2 l6 p4 o4 o0 l1 rf n0 m1 i9 l9 l4 k7 i4 k8 k5 j9 g1 k0 j5 j1 g0 i6 i3 g4 f0 g8 f6 f4 e8 (cd h0 dhn)
    refine aq (fun h0 h1=> ?_) ?_
    ·
     cases (show o9=false from h0)
     obtain rfl:dB9=true:=h1.1
     cases dh9 rfl
     refine rn hA 1 ?_
     refine ow_ ?_
     exact ih dh4 dh5 dh6 dh7 dh8 rf rf d6 m7 c6 c1 d7 m3 d4 c2 c8 m9 d5 c0 d3 m4 d1 d0 d9 m8 c9 d8 c7 m2 m5 m6 b8 b9 k3 n4 rf rf b7 i0 i2 b0 a6 b5 e1 g3 a2 a5 b4 e5 f9 a9 a4 b3 e3 f2 a8 a0 b2 e4 e9 a1 a3 b1 e6 e7 e0 f1 l5 p3 o5 o3 l2 rf rf l8 j0 m0 l3 l0 i1 k9 k4 j8 g9 k1 j6 i7 f8 i8 i5 g6 f3 g2 f7 e2 l6 p4 o4 o0 l1 rf rf m1 i9 l9 l4 k7 i4 k8 k5 j9 g1 k0 j5 j1 g0 i6 i3 g4 f0 g8 f6 f4 e8 (cd h0 dhn)
    refine aq (fun h0 h1=> ?_) ?_
    ·
     cases (show n5=false from h0)
     obtain rfl:o9=true:=h1.1
     cases d2 rfl;cases b6 rfl;cases dh9 rfl
     obtain rfl:dB7=true:=h1.2.1
     cases dh7 rfl;cases b9 rfl;cases dh6 rfl;cases b8 rfl;cases dh5 rfl
     refine cvw w1 (.inr rfl) ?_
     refine ow_ ?_
     exact ih dh4 rf rf rf dh8 rf rf rf m7 c6 c1 d7 m3 d4 c2 c8 m9 d5 c0 d3 m4 d1 d0 d9 m8 c9 d8 c7 m2 m5 m6 rf rf k3 rf rf rf rf i0 rf b0 a6 rf e1 g3 a2 a5 b4 e5 f9 a9 a4 b3 e3 f2 a8 a0 b2 e4 e9 a1 a3 b1 e6 e7 e0 f1 l5 rf rf rf l2 rf rf rf j0 m0 l3 l0 i1 k9 k4 j8 g9 k1 j6 i7 f8 i8 i5 g6 f3 g2 f7 e2 l6 rf rf rf l1 rf rf rf i9 l9 l4 k7 i4 k8 k5 j9 g1 k0 j5 j1 g0 i6 i3 g4 f0 g8 f6 f4 e8 (cd h0 dhn)
    refine aq (fun h0 h1=> ?_) ?_
    ·
     cases (show q8=false from h0)
     obtain rfl:dB8=true:=h1.1
     cases dh8 rfl;cases k3 rfl;cases dh4 rfl;cases n4 rfl;cases dh7 rfl;cases b9 rfl;cases dh6 rfl;cases b8 rfl;cases dh5 rfl
     obtain rfl:n5=true:=h1.2.1
     cases d6 rfl;cases a7 rfl;cases d2 rfl;cases b6 rfl;cases dh9 rfl
     refine ops_step rfl rfl (str_add rfl rfl rfl v4 x1) ?_
     refine ow_ ?_
     exact ih rf rf rf rf rf rf rf rf rf c6 c1 d7 m3 d4 c2 c8 m9 d5 c0 d3 m4 d1 d0 d9 m8 c9 d8 c7 m2 m5 m6 rf rf rf rf rf rf rf rf rf b0 a6 rf rf g3 a2 a5 b4 e5 f9 a9 a4 b3 e3 f2 a8 a0 b2 e4 e9 a1 a3 b1 e6 e7 e0 f1 rf rf rf rf rf rf rf rf rf m0 l3 l0 i1 k9 k4 j8 g9 k1 j6 i7 f8 i8 i5 g6 f3 g2 f7 e2 rf rf rf rf rf rf rf rf rf l9 l4 k7 i4 k8 k5 j9 g1 k0 j5 j1 g0 i6 i3 g4 f0 g8 f6 f4 e8 (cd h0 dhn)
    refine aq (fun h0 h1=> ?_) ?_
    ·
     cases (show p7=false from h0)
     refine rn hA 1 ?_
     refine ow_ ?_
     exact ih dh4 dh5 dh6 dh7 dh8 dh9 d2 d6 m7 rf c1 d7 m3 d4 c2 c8 m9 d5 c0 d3 m4 d1 d0 d9 m8 c9 d8 c7 m2 m5 m6 b8 b9 k3 n4 b6 a7 b7 i0 i2 rf a6 b5 e1 g3 a2 a5 b4 e5 f9 a9 a4 b3 e3 f2 a8 a0 b2 e4 e9 a1 a3 b1 e6 e7 e0 f1 l5 p3 o5 o3 l2 o1 n1 l8 j0 rf l3 l0 i1 k9 k4 j8 g9 k1 j6 i7 f8 i8 i5 g6 f3 g2 f7 e2 l6 p4 o4 o0 l1 o2 n0 m1 i9 rf l4 k7 i4 k8 k5 j9 g1 k0 j5 j1 g0 i6 i3 g4 f0 g8 f6 f4 e8 (cd h0 dhn)
    refine aq (fun h0 h1=> ?_) ?_
    ·
     cases (show p1=false from h0)
     obtain rfl:p7=true:=h1.1
     cases c6 rfl
     refine rn hA 1 ?_
     refine ow_ ?_
     exact ih dh4 dh5 dh6 dh7 dh8 dh9 d2 d6 m7 rf rf d7 m3 d4 c2 c8 m9 d5 c0 d3 m4 d1 d0 d9 m8 c9 d8 c7 m2 m5 m6 b8 b9 k3 n4 b6 a7 b7 i0 i2 rf rf b5 e1 g3 a2 a5 b4 e5 f9 a9 a4 b3 e3 f2 a8 a0 b2 e4 e9 a1 a3 b1 e6 e7 e0 f1 l5 p3 o5 o3 l2 o1 n1 l8 j0 rf rf l0 i1 k9 k4 j8 g9 k1 j6 i7 f8 i8 i5 g6 f3 g2 f7 e2 l6 p4 o4 o0 l1 o2 n0 m1 i9 rf rf k7 i4 k8 k5 j9 g1 k0 j5 j1 g0 i6 i3 g4 f0 g8 f6 f4 e8 (cd h0 dhn)
    refine aq (fun h0 h1=> ?_) ?_
    ·
     cases (show n8=false from h0)
     obtain rfl:p1=true:=h1.1
     cases c1 rfl;cases b0 rfl;cases c6 rfl
     obtain rfl:n5=true:=h1.2.1
     cases d6 rfl;cases a7 rfl;cases d2 rfl;cases b6 rfl;cases dh9 rfl;cases b7 rfl;cases dh7 rfl;cases b9 rfl;cases dh6 rfl;cases b8 rfl;cases dh5 rfl
     refine cvw v6 (.inr rfl) ?_
     refine ow_ ?_
     exact ih dh4 rf rf rf dh8 rf rf rf m7 rf rf rf m3 d4 c2 c8 m9 d5 c0 d3 m4 d1 d0 d9 m8 c9 d8 c7 m2 m5 m6 rf rf k3 rf rf rf rf i0 rf rf rf rf e1 rf a2 a5 rf e5 f9 a9 a4 b3 e3 f2 a8 a0 b2 e4 e9 a1 a3 b1 e6 e7 e0 f1 l5 rf rf rf l2 rf rf rf j0 rf rf rf i1 k9 k4 j8 g9 k1 j6 i7 f8 i8 i5 g6 f3 g2 f7 e2 l6 rf rf rf l1 rf rf rf i9 rf rf rf i4 k8 k5 j9 g1 k0 j5 j1 g0 i6 i3 g4 f0 g8 f6 f4 e8 (cd h0 dhn)
    refine aq (fun h0 h1=> ?_) ?_
    ·
     cases (show r0=false from h0)
     obtain rfl:q8=true:=h1.1
     cases m7 rfl;cases i0 rfl;cases dh8 rfl;cases k3 rfl;cases dh4 rfl;cases n4 rfl;cases dh7 rfl;cases b9 rfl;cases dh6 rfl;cases b8 rfl;cases dh5 rfl;cases i2 rfl;cases d6 rfl;cases a7 rfl;cases d2 rfl;cases b6 rfl;cases dh9 rfl
     obtain rfl:n8=true:=h1.2.1
     cases d7 rfl;cases a6 rfl;cases c1 rfl;cases b0 rfl;cases c6 rfl
     refine ops_step rfl rfl (str_add rfl rfl rfl v5 w2) ?_
     refine ow_ ?_
     exact ih rf rf rf rf rf rf rf rf rf rf rf rf rf d4 c2 c8 m9 d5 c0 d3 m4 d1 d0 d9 m8 c9 d8 c7 m2 m5 m6 rf rf rf rf rf rf rf rf rf rf rf rf rf rf a2 a5 rf rf f9 a9 a4 b3 e3 f2 a8 a0 b2 e4 e9 a1 a3 b1 e6 e7 e0 f1 rf rf rf rf rf rf rf rf rf rf rf rf rf k9 k4 j8 g9 k1 j6 i7 f8 i8 i5 g6 f3 g2 f7 e2 rf rf rf rf rf rf rf rf rf rf rf rf rf k8 k5 j9 g1 k0 j5 j1 g0 i6 i3 g4 f0 g8 f6 f4 e8 (cd h0 dhn)
    refine aq (fun h0 h1=> ?_) ?_
    ·
     cases (show p5=false from h0)
     refine rn hA 1 ?_
     refine ow_ ?_
     exact ih dh4 dh5 dh6 dh7 dh8 dh9 d2 d6 m7 c6 c1 d7 m3 rf c2 c8 m9 d5 c0 d3 m4 d1 d0 d9 m8 c9 d8 c7 m2 m5 m6 b8 b9 k3 n4 b6 a7 b7 i0 i2 b0 a6 b5 e1 g3 rf a5 b4 e5 f9 a9 a4 b3 e3 f2 a8 a0 b2 e4 e9 a1 a3 b1 e6 e7 e0 f1 l5 p3 o5 o3 l2 o1 n1 l8 j0 m0 l3 l0 i1 rf k4 j8 g9 k1 j6 i7 f8 i8 i5 g6 f3 g2 f7 e2 l6 p4 o4 o0 l1 o2 n0 m1 i9 l9 l4 k7 i4 rf k5 j9 g1 k0 j5 j1 g0 i6 i3 g4 f0 g8 f6 f4 e8 (cd h0 dhn)
    refine aq (fun h0 h1=> ?_) ?_
    ·
     cases (show o8=false from h0)
     obtain rfl:p5=true:=h1.1
     cases d4 rfl
     refine rn hA 1 ?_
     refine ow_ ?_
     exact ih dh4 dh5 dh6 dh7 dh8 dh9 d2 d6 m7 c6 c1 d7 m3 rf rf c8 m9 d5 c0 d3 m4 d1 d0 d9 m8 c9 d8 c7 m2 m5 m6 b8 b9 k3 n4 b6 a7 b7 i0 i2 b0 a6 b5 e1 g3 rf rf b4 e5 f9 a9 a4 b3 e3 f2 a8 a0 b2 e4 e9 a1 a3 b1 e6 e7 e0 f1 l5 p3 o5 o3 l2 o1 n1 l8 j0 m0 l3 l0 i1 rf rf j8 g9 k1 j6 i7 f8 i8 i5 g6 f3 g2 f7 e2 l6 p4 o4 o0 l1 o2 n0 m1 i9 l9 l4 k7 i4 rf rf j9 g1 k0 j5 j1 g0 i6 i3 g4 f0 g8 f6 f4 e8 (cd h0 dhn)
    refine aq (fun h0 h1=> ?_) ?_
    ·
     cases (show n6=false from h0)
     obtain rfl:o8=true:=h1.1
     cases c2 rfl;cases a2 rfl;cases d4 rfl
     obtain rfl:n8=true:=h1.2.1
     cases d7 rfl;cases a6 rfl;cases c1 rfl;cases b0 rfl;cases c6 rfl;cases b5 rfl;cases d6 rfl;cases a7 rfl;cases d2 rfl;cases b6 rfl;cases dh9 rfl;cases b7 rfl;cases dh7 rfl;cases b9 rfl;cases dh6 rfl;cases b8 rfl;cases dh5 rfl
     refine cvw v9 (.inr rfl) ?_
     refine ow_ ?_
     exact ih dh4 rf rf rf dh8 rf rf rf m7 rf rf rf m3 rf rf rf m9 d5 c0 d3 m4 d1 d0 d9 m8 c9 d8 c7 m2 m5 m6 rf rf k3 rf rf rf rf i0 rf rf rf rf e1 rf rf rf rf e5 rf a9 a4 rf e3 f2 a8 a0 b2 e4 e9 a1 a3 b1 e6 e7 e0 f1 l5 rf rf rf l2 rf rf rf j0 rf rf rf i1 rf rf rf g9 k1 j6 i7 f8 i8 i5 g6 f3 g2 f7 e2 l6 rf rf rf l1 rf rf rf i9 rf rf rf i4 rf rf rf g1 k0 j5 j1 g0 i6 i3 g4 f0 g8 f6 f4 e8 (cd h0 dhn)
    refine aq (fun h0 h1=> ?_) ?_
    ·
     cases (show q6=false from h0)
     obtain rfl:r0=true:=h1.1
     cases m3 rfl;cases e1 rfl;cases m7 rfl;cases i0 rfl;cases dh8 rfl;cases k3 rfl;cases dh4 rfl;cases n4 rfl;cases dh7 rfl;cases b9 rfl;cases dh6 rfl;cases b8 rfl;cases dh5 rfl;cases i2 rfl;cases d6 rfl;cases a7 rfl;cases d2 rfl;cases b6 rfl;cases dh9 rfl;cases g3 rfl;cases d7 rfl;cases a6 rfl;cases c1 rfl;cases b0 rfl;cases c6 rfl
     obtain rfl:n6=true:=h1.2.1
     cases c8 rfl;cases a5 rfl;cases c2 rfl;cases a2 rfl;cases d4 rfl
     refine ops_step rfl rfl (str_add rfl rfl rfl v2 w3) ?_
     refine ow_ ?_
     exact ih rf rf rf rf rf rf rf rf rf rf rf rf rf rf rf rf rf d5 c0 d3 m4 d1 d0 d9 m8 c9 d8 c7 m2 m5 m6 rf rf rf rf rf rf rf rf rf rf rf rf rf rf rf rf rf rf rf a9 a4 rf rf f2 a8 a0 b2 e4 e9 a1 a3 b1 e6 e7 e0 f1 rf rf rf rf rf rf rf rf rf rf rf rf rf rf rf rf rf k1 j6 i7 f8 i8 i5 g6 f3 g2 f7 e2 rf rf rf rf rf rf rf rf rf rf rf rf rf rf rf rf rf k0 j5 j1 g0 i6 i3 g4 f0 g8 f6 f4 e8 (cd h0 dhn)
    refine aq (fun h0 h1=> ?_) ?_
    ·
     cases (show p8=false from h0)
     refine rn hA 1 ?_
     refine ow_ ?_
     exact ih dh4 dh5 dh6 dh7 dh8 dh9 d2 d6 m7 c6 c1 d7 m3 d4 c2 c8 m9 rf c0 d3 m4 d1 d0 d9 m8 c9 d8 c7 m2 m5 m6 b8 b9 k3 n4 b6 a7 b7 i0 i2 b0 a6 b5 e1 g3 a2 a5 b4 e5 f9 rf a4 b3 e3 f2 a8 a0 b2 e4 e9 a1 a3 b1 e6 e7 e0 f1 l5 p3 o5 o3 l2 o1 n1 l8 j0 m0 l3 l0 i1 k9 k4 j8 g9 rf j6 i7 f8 i8 i5 g6 f3 g2 f7 e2 l6 p4 o4 o0 l1 o2 n0 m1 i9 l9 l4 k7 i4 k8 k5 j9 g1 rf j5 j1 g0 i6 i3 g4 f0 g8 f6 f4 e8 (cd h0 dhn)
    refine aq (fun h0 h1=> ?_) ?_
    ·
     cases (show o6=false from h0)
     obtain rfl:p8=true:=h1.1
     cases d5 rfl
     refine rn hA 1 ?_
     refine ow_ ?_
     exact ih dh4 dh5 dh6 dh7 dh8 dh9 d2 d6 m7 c6 c1 d7 m3 d4 c2 c8 m9 rf rf d3 m4 d1 d0 d9 m8 c9 d8 c7 m2 m5 m6 b8 b9 k3 n4 b6 a7 b7 i0 i2 b0 a6 b5 e1 g3 a2 a5 b4 e5 f9 rf rf b3 e3 f2 a8 a0 b2 e4 e9 a1 a3 b1 e6 e7 e0 f1 l5 p3 o5 o3 l2 o1 n1 l8 j0 m0 l3 l0 i1 k9 k4 j8 g9 rf rf i7 f8 i8 i5 g6 f3 g2 f7 e2 l6 p4 o4 o0 l1 o2 n0 m1 i9 l9 l4 k7 i4 k8 k5 j9 g1 rf rf j1 g0 i6 i3 g4 f0 g8 f6 f4 e8 (cd h0 dhn)
    refine aq (fun h0 h1=> ?_) ?_
    ·
     cases (show n7=false from h0)
     obtain rfl:o6=true:=h1.1
     cases c0 rfl;cases a9 rfl;cases d5 rfl
     obtain rfl:n6=true:=h1.2.1
     cases c8 rfl;cases a5 rfl;cases c2 rfl;cases a2 rfl;cases d4 rfl;cases b4 rfl;cases d7 rfl;cases a6 rfl;cases c1 rfl;cases b0 rfl;cases c6 rfl;cases b5 rfl;cases d6 rfl;cases a7 rfl;cases d2 rfl;cases b6 rfl;cases dh9 rfl;cases b7 rfl;cases dh7 rfl;cases b9 rfl;cases dh6 rfl;cases b8 rfl;cases dh5 rfl
     refine cvw v8 (.inr rfl) ?_
     refine ow_ ?_
     exact ih dh4 rf rf rf dh8 rf rf rf m7 rf rf rf m3 rf rf rf m9 rf rf rf m4 d1 d0 d9 m8 c9 d8 c7 m2 m5 m6 rf rf k3 rf rf rf rf i0 rf rf rf rf e1 rf rf rf rf e5 rf rf rf rf e3 rf a8 a0 rf e4 e9 a1 a3 b1 e6 e7 e0 f1 l5 rf rf rf l2 rf rf rf j0 rf rf rf i1 rf rf rf g9 rf rf rf f8 i8 i5 g6 f3 g2 f7 e2 l6 rf rf rf l1 rf rf rf i9 rf rf rf i4 rf rf rf g1 rf rf rf g0 i6 i3 g4 f0 g8 f6 f4 e8 (cd h0 dhn)
    refine aq (fun h0 h1=> ?_) ?_
    ·
     cases (show q9=false from h0)
     obtain rfl:q6=true:=h1.1
     cases m9 rfl;cases e5 rfl;cases m3 rfl;cases e1 rfl;cases m7 rfl;cases i0 rfl;cases dh8 rfl;cases k3 rfl;cases dh4 rfl;cases n4 rfl;cases dh7 rfl;cases b9 rfl;cases dh6 rfl;cases b8 rfl;cases dh5 rfl;cases i2 rfl;cases d6 rfl;cases a7 rfl;cases d2 rfl;cases b6 rfl;cases dh9 rfl;cases g3 rfl;cases d7 rfl;cases a6 rfl;cases c1 rfl;cases b0 rfl;cases c6 rfl;cases f9 rfl;cases c8 rfl;cases a5 rfl;cases c2 rfl;cases a2 rfl;cases d4 rfl
     obtain rfl:n7=true:=h1.2.1
     cases d3 rfl;cases a4 rfl;cases c0 rfl;cases a9 rfl;cases d5 rfl
     refine ops_step rfl rfl (str_add rfl rfl rfl v0 w7) ?_
     refine ow_ ?_
     exact ih rf rf rf rf rf rf rf rf rf rf rf rf rf rf rf rf rf rf rf rf rf d1 d0 d9 m8 c9 d8 c7 m2 m5 m6 rf rf rf rf rf rf rf rf rf rf rf rf rf rf rf rf rf rf rf rf rf rf rf rf a8 a0 rf rf e9 a1 a3 b1 e6 e7 e0 f1 rf rf rf rf rf rf rf rf rf rf rf rf rf rf rf rf rf rf rf rf rf i8 i5 g6 f3 g2 f7 e2 rf rf rf rf rf rf rf rf rf rf rf rf rf rf rf rf rf rf rf rf rf i6 i3 g4 f0 g8 f6 f4 e8 (cd h0 dhn)
    refine aq (fun h0 h1=> ?_) ?_
    ·
     cases (show p9=false from h0)
     refine rn hA 1 ?_
     refine ow_ ?_
     exact ih dh4 dh5 dh6 dh7 dh8 dh9 d2 d6 m7 c6 c1 d7 m3 d4 c2 c8 m9 d5 c0 d3 m4 rf d0 d9 m8 c9 d8 c7 m2 m5 m6 b8 b9 k3 n4 b6 a7 b7 i0 i2 b0 a6 b5 e1 g3 a2 a5 b4 e5 f9 a9 a4 b3 e3 f2 rf a0 b2 e4 e9 a1 a3 b1 e6 e7 e0 f1 l5 p3 o5 o3 l2 o1 n1 l8 j0 m0 l3 l0 i1 k9 k4 j8 g9 k1 j6 i7 f8 rf i5 g6 f3 g2 f7 e2 l6 p4 o4 o0 l1 o2 n0 m1 i9 l9 l4 k7 i4 k8 k5 j9 g1 k0 j5 j1 g0 rf i3 g4 f0 g8 f6 f4 e8 (cd h0 dhn)
    refine aq (fun h0 h1=> ?_) ?_
    ·
     cases (show p2=false from h0)
     obtain rfl:p9=true:=h1.1
     cases d1 rfl
     refine rn hA 1 ?_
     refine ow_ ?_
     exact ih dh4 dh5 dh6 dh7 dh8 dh9 d2 d6 m7 c6 c1 d7 m3 d4 c2 c8 m9 d5 c0 d3 m4 rf rf d9 m8 c9 d8 c7 m2 m5 m6 b8 b9 k3 n4 b6 a7 b7 i0 i2 b0 a6 b5 e1 g3 a2 a5 b4 e5 f9 a9 a4 b3 e3 f2 rf rf b2 e4 e9 a1 a3 b1 e6 e7 e0 f1 l5 p3 o5 o3 l2 o1 n1 l8 j0 m0 l3 l0 i1 k9 k4 j8 g9 k1 j6 i7 f8 rf rf g6 f3 g2 f7 e2 l6 p4 o4 o0 l1 o2 n0 m1 i9 l9 l4 k7 i4 k8 k5 j9 g1 k0 j5 j1 g0 rf rf g4 f0 g8 f6 f4 e8 (cd h0 dhn)
    refine aq (fun h0 h1=> ?_) ?_
    ·
     cases (show n9=false from h0)
     obtain rfl:p2=true:=h1.1
     cases d0 rfl;cases a8 rfl;cases d1 rfl
     obtain rfl:n7=true:=h1.2.1
     cases d3 rfl;cases a4 rfl;cases c0 rfl;cases a9 rfl;cases d5 rfl;cases b3 rfl;cases c8 rfl;cases a5 rfl;cases c2 rfl;cases a2 rfl;cases d4 rfl;cases b4 rfl;cases d7 rfl;cases a6 rfl;cases c1 rfl;cases b0 rfl;cases c6 rfl;cases b5 rfl;cases d6 rfl;cases a7 rfl;cases d2 rfl;cases b6 rfl;cases dh9 rfl;cases b7 rfl;cases dh7 rfl;cases b9 rfl;cases dh6 rfl;cases b8 rfl;cases dh5 rfl
     refine cvw v7 (.inr rfl) ?_
     refine ow_ ?_
     exact ih dh4 rf rf rf dh8 rf rf rf m7 rf rf rf m3 rf rf rf m9 rf rf rf m4 rf rf rf m8 c9 d8 c7 m2 m5 m6 rf rf k3 rf rf rf rf i0 rf rf rf rf e1 rf rf rf rf e5 rf rf rf rf e3 rf rf rf rf e4 rf a1 a3 rf e6 e7 e0 f1 l5 rf rf rf l2 rf rf rf j0 rf rf rf i1 rf rf rf g9 rf rf rf f8 rf rf rf f3 g2 f7 e2 l6 rf rf rf l1 rf rf rf i9 rf rf rf i4 rf rf rf g1 rf rf rf g0 rf rf rf f0 g8 f6 f4 e8 (cd h0 dhn)
    refine aq (fun h0 h1=> ?_) ?_
    ·
     cases (show q7=false from h0)
     obtain rfl:q9=true:=h1.1
     cases m4 rfl;cases e3 rfl;cases m9 rfl;cases e5 rfl;cases m3 rfl;cases e1 rfl;cases m7 rfl;cases i0 rfl;cases dh8 rfl;cases k3 rfl;cases dh4 rfl;cases n4 rfl;cases dh7 rfl;cases b9 rfl;cases dh6 rfl;cases b8 rfl;cases dh5 rfl;cases i2 rfl;cases d6 rfl;cases a7 rfl;cases d2 rfl;cases b6 rfl;cases dh9 rfl;cases g3 rfl;cases d7 rfl;cases a6 rfl;cases c1 rfl;cases b0 rfl;cases c6 rfl;cases f9 rfl;cases c8 rfl;cases a5 rfl;cases c2 rfl;cases a2 rfl;cases d4 rfl;cases f2 rfl;cases d3 rfl;cases a4 rfl;cases c0 rfl;cases a9 rfl;cases d5 rfl
     obtain rfl:n9=true:=h1.2.1
     cases d9 rfl;cases a0 rfl;cases d0 rfl;cases a8 rfl;cases d1 rfl
     refine ops_step rfl rfl (str_add rfl rfl rfl v3 x2) ?_
     refine ow_ ?_
     exact ih rf rf rf rf rf rf rf rf rf rf rf rf rf rf rf rf rf rf rf rf rf rf rf rf rf c9 d8 c7 m2 m5 m6 rf rf rf rf rf rf rf rf rf rf rf rf rf rf rf rf rf rf rf rf rf rf rf rf rf rf rf rf rf a1 a3 rf rf e7 e0 f1 rf rf rf rf rf rf rf rf rf rf rf rf rf rf rf rf rf rf rf rf rf rf rf rf rf g2 f7 e2 rf rf rf rf rf rf rf rf rf rf rf rf rf rf rf rf rf rf rf rf rf rf rf rf rf g8 f6 f4 e8 (cd h0 dhn)
    refine aq (fun h0 h1=> ?_) ?_
    ·
     cases (show p6=false from h0)
     refine rn hA 1 ?_
     refine ow_ ?_
     exact ih dh4 dh5 dh6 dh7 dh8 dh9 d2 d6 m7 c6 c1 d7 m3 d4 c2 c8 m9 d5 c0 d3 m4 d1 d0 d9 m8 rf d8 c7 m2 m5 m6 b8 b9 k3 n4 b6 a7 b7 i0 i2 b0 a6 b5 e1 g3 a2 a5 b4 e5 f9 a9 a4 b3 e3 f2 a8 a0 b2 e4 e9 rf a3 b1 e6 e7 e0 f1 l5 p3 o5 o3 l2 o1 n1 l8 j0 m0 l3 l0 i1 k9 k4 j8 g9 k1 j6 i7 f8 i8 i5 g6 f3 rf f7 e2 l6 p4 o4 o0 l1 o2 n0 m1 i9 l9 l4 k7 i4 k8 k5 j9 g1 k0 j5 j1 g0 i6 i3 g4 f0 rf f6 f4 e8 (cd h0 dhn)
    refine aq (fun h0 h1=> ?_) ?_
    ·
     cases (show p0=false from h0)
     obtain rfl:p6=true:=h1.1
     cases c9 rfl
     refine rn hA 1 ?_
     refine ow_ ?_
     exact ih dh4 dh5 dh6 dh7 dh8 dh9 d2 d6 m7 c6 c1 d7 m3 d4 c2 c8 m9 d5 c0 d3 m4 d1 d0 d9 m8 rf rf c7 m2 m5 m6 b8 b9 k3 n4 b6 a7 b7 i0 i2 b0 a6 b5 e1 g3 a2 a5 b4 e5 f9 a9 a4 b3 e3 f2 a8 a0 b2 e4 e9 rf rf b1 e6 e7 e0 f1 l5 p3 o5 o3 l2 o1 n1 l8 j0 m0 l3 l0 i1 k9 k4 j8 g9 k1 j6 i7 f8 i8 i5 g6 f3 rf rf e2 l6 p4 o4 o0 l1 o2 n0 m1 i9 l9 l4 k7 i4 k8 k5 j9 g1 k0 j5 j1 g0 i6 i3 g4 f0 rf rf f4 e8 (cd h0 dhn)
    refine aq (fun h0 h1=> ?_) ?_
    ·
     cases (show o7=false from h0)
     obtain rfl:p0=true:=h1.1
     cases d8 rfl;cases a1 rfl;cases c9 rfl
     obtain rfl:n9=true:=h1.2.1
     cases d9 rfl;cases a0 rfl;cases d0 rfl;cases a8 rfl;cases d1 rfl;cases b2 rfl;cases d3 rfl;cases a4 rfl;cases c0 rfl;cases a9 rfl;cases d5 rfl;cases b3 rfl;cases c8 rfl;cases a5 rfl;cases c2 rfl;cases a2 rfl;cases d4 rfl;cases b4 rfl;cases d7 rfl;cases a6 rfl;cases c1 rfl;cases b0 rfl;cases c6 rfl;cases b5 rfl;cases d6 rfl;cases a7 rfl;cases d2 rfl;cases b6 rfl;cases dh9 rfl;cases b7 rfl;cases dh7 rfl;cases b9 rfl;cases dh6 rfl;cases b8 rfl;cases dh5 rfl
     refine cvw w0 (.inr rfl) ?_
     refine ow_ ?_
     exact ih dh4 rf rf rf dh8 rf rf rf m7 rf rf rf m3 rf rf rf m9 rf rf rf m4 rf rf rf m8 rf rf rf m2 m5 m6 rf rf k3 rf rf rf rf i0 rf rf rf rf e1 rf rf rf rf e5 rf rf rf rf e3 rf rf rf rf e4 rf rf rf rf e6 rf e0 rf l5 rf rf rf l2 rf rf rf j0 rf rf rf i1 rf rf rf g9 rf rf rf f8 rf rf rf f3 rf rf e2 l6 rf rf rf l1 rf rf rf i9 rf rf rf i4 rf rf rf g1 rf rf rf g0 rf rf rf f0 rf rf rf e8 (cd h0 dhn)
    refine aq (fun h0 h1=> ?_) ?_
    ·
     cases (show r3=false from h0)
     obtain rfl:q7=true:=h1.1
     cases m8 rfl;cases e4 rfl;cases m4 rfl;cases e3 rfl;cases m9 rfl;cases e5 rfl;cases m3 rfl;cases e1 rfl;cases m7 rfl;cases i0 rfl;cases dh8 rfl;cases k3 rfl;cases dh4 rfl;cases n4 rfl;cases dh7 rfl;cases b9 rfl;cases dh6 rfl;cases b8 rfl;cases dh5 rfl;cases i2 rfl;cases d6 rfl;cases a7 rfl;cases d2 rfl;cases b6 rfl;cases dh9 rfl;cases g3 rfl;cases d7 rfl;cases a6 rfl;cases c1 rfl;cases b0 rfl;cases c6 rfl;cases f9 rfl;cases c8 rfl;cases a5 rfl;cases c2 rfl;cases a2 rfl;cases d4 rfl;cases f2 rfl;cases d3 rfl;cases a4 rfl;cases c0 rfl;cases a9 rfl;cases d5 rfl;cases e9 rfl;cases d9 rfl;cases a0 rfl;cases d0 rfl;cases a8 rfl;cases d1 rfl
     obtain rfl:o7=true:=h1.2.1
     cases c7 rfl;cases a3 rfl;cases d8 rfl;cases a1 rfl;cases c9 rfl
     refine ops_step rfl rfl (str_add rfl rfl rfl v1 w5) ?_
     refine ow_ ?_
     exact ih rf rf rf rf rf rf rf rf rf rf rf rf rf rf rf rf rf rf rf rf rf rf rf rf rf rf rf rf rf m5 m6 rf rf rf rf rf rf rf rf rf rf rf rf rf rf rf rf rf rf rf rf rf rf rf rf rf rf rf rf rf rf rf rf rf rf rf rf rf rf rf rf rf rf rf rf rf rf rf rf rf rf rf rf rf rf rf rf rf rf rf rf rf rf rf e2 rf rf rf rf rf rf rf rf rf rf rf rf rf rf rf rf rf rf rf rf rf rf rf rf rf rf rf rf rf (cd h0 dhn)
    refine aq (fun h0 h1=> ?_) ?_
    ·
     cases (show k2=false from h0)
     obtain rfl:r3=true:=h1.1
     cases m2 rfl;cases e6 rfl;cases m8 rfl;cases e4 rfl;cases m4 rfl;cases e3 rfl;cases m9 rfl;cases e5 rfl;cases m3 rfl;cases e1 rfl;cases m7 rfl;cases i0 rfl;cases dh8 rfl;cases k3 rfl;cases dh4 rfl;cases n4 rfl;cases dh7 rfl;cases b9 rfl;cases dh6 rfl;cases b8 rfl;cases dh5 rfl;cases i2 rfl;cases d6 rfl;cases a7 rfl;cases d2 rfl;cases b6 rfl;cases dh9 rfl;cases g3 rfl;cases d7 rfl;cases a6 rfl;cases c1 rfl;cases b0 rfl;cases c6 rfl;cases f9 rfl;cases c8 rfl;cases a5 rfl;cases c2 rfl;cases a2 rfl;cases d4 rfl;cases f2 rfl;cases d3 rfl;cases a4 rfl;cases c0 rfl;cases a9 rfl;cases d5 rfl;cases e9 rfl;cases d9 rfl;cases a0 rfl;cases d0 rfl;cases a8 rfl;cases d1 rfl;cases e7 rfl;cases c7 rfl;cases a3 rfl;cases d8 rfl;cases a1 rfl;cases c9 rfl
     refine rn hA 1 ?_
     refine ow_ ?_
     exact ih rf rf rf rf rf rf rf rf rf rf rf rf rf rf rf rf rf rf rf rf rf rf rf rf rf rf rf rf rf rf m6 rf rf rf rf rf rf rf rf rf rf rf rf rf rf rf rf rf rf rf rf rf rf rf rf rf rf rf rf rf rf rf rf rf rf rf rf rf rf rf rf rf rf rf rf rf rf rf rf rf rf rf rf rf rf rf rf rf rf rf rf rf rf rf rf rf rf rf rf rf rf rf rf rf rf rf rf rf rf rf rf rf rf rf rf rf rf rf rf rf rf rf rf rf (cd h0 dhn)
    refine aq (fun h0 h1=> ?_) ?_
    ·
     cases (show k6=false from h0)
     obtain rfl:k2=true:=h1.1
     cases m5 rfl;cases e0 rfl;cases m2 rfl;cases e6 rfl;cases m8 rfl;cases e4 rfl;cases m4 rfl;cases e3 rfl;cases m9 rfl;cases e5 rfl;cases m3 rfl;cases e1 rfl;cases m7 rfl;cases i0 rfl;cases dh8 rfl;cases k3 rfl;cases dh4 rfl;cases n4 rfl;cases dh7 rfl;cases b9 rfl;cases dh6 rfl;cases b8 rfl;cases dh5 rfl;cases i2 rfl;cases d6 rfl;cases a7 rfl;cases d2 rfl;cases b6 rfl;cases dh9 rfl;cases g3 rfl;cases d7 rfl;cases a6 rfl;cases c1 rfl;cases b0 rfl;cases c6 rfl;cases f9 rfl;cases c8 rfl;cases a5 rfl;cases c2 rfl;cases a2 rfl;cases d4 rfl;cases f2 rfl;cases d3 rfl;cases a4 rfl;cases c0 rfl;cases a9 rfl;cases d5 rfl;cases e9 rfl;cases d9 rfl;cases a0 rfl;cases d0 rfl;cases a8 rfl;cases d1 rfl;cases e7 rfl;cases c7 rfl;cases a3 rfl;cases d8 rfl;cases a1 rfl;cases c9 rfl
     refine rn hA 1 ?_
     refine ow_ ?_
     exact ih rf rf rf rf rf rf rf rf rf rf rf rf rf rf rf rf rf rf rf rf rf rf rf rf rf rf rf rf rf rf rf rf rf rf rf rf rf rf rf rf rf rf rf rf rf rf rf rf rf rf rf rf rf rf rf rf rf rf rf rf rf rf rf rf rf rf rf rf rf rf rf rf rf rf rf rf rf rf rf rf rf rf rf rf rf rf rf rf rf rf rf rf rf rf rf rf rf rf rf rf rf rf rf rf rf rf rf rf rf rf rf rf rf rf rf rf rf rf rf rf rf rf rf rf (cd h0 dhn)
    exact trivial
  have H_:∀(dn:Nat) {dB0 dB1 dB2 dB5 dB6 dB7 dB9 o9 n5 p7 p1 n8 p5 o8 n6 p8 o6 n7 p9 p2 n9 p6 p0 o7:Bool} {dQ0 dQ1 dQ2 dQ5 dQ6 dQ7 dQ9 r5 r6 t0 s0 s6 r7 r4 s5 r9 s4 r8 s1 t2 s2 s7 t1 s9:PV},(dB0=true→dQ0=.pt 1 0 0)→(dB1=true→dQ1=.ii f5)→(dB2=true→dQ2=.int .u8 (A.cnv .u8 f5))→(dB5=true→dQ5=.pt 1 0 1)→(dB6=true→dQ6=.ii g5)→(dB7=true→dQ7=.str r2)→(dB9=true→dQ9=.pt 1 0 2)→(o9=true→r5=.ii l7)→(n5=true→r6=.str r1)→(p7=true→t0=.pt 1 0 3)→(p1=true→s0=.ii j7)→(n8=true→s6=.str q2)→(p5=true→r7=.pt 1 0 4)→(o8=true→r4=.ii g7)→(n6=true→s5=.str q1)→(p8=true→r9=.pt 1 0 5)→(o6=true→s4=.str j4)→(n7=true→r8=.str q4)→(p9=true→s1=.pt 1 0 6)→(p2=true→t2=.str j2)→(n9=true→s2=.str q3)→(p6=true→s7=.pt 1 0 7)→(p0=true→t1=.str j3)→(o7=true→s9=.str q5)→(dB1=true→dB0=true)→(dB2=true→dB1=true)→(dB6=true→dB5=true)→(dB7=true→dB6=true)→(o9=true→dB9=true)→(n5=true→o9=true)→(n5=true→dB7=true)→(p1=true→p7=true)→(n8=true→p1=true)→(n8=true→n5=true)→(o8=true→p5=true)→(n6=true→o8=true)→(n6=true→n8=true)→(o6=true→p8=true)→(n7=true→o6=true)→(n7=true→n6=true)→(p2=true→p9=true)→(n9=true→p2=true)→(n9=true→n7=true)→(p0=true→p6=true)→(o7=true→p0=true)→(o7=true→n9=true)→cntF [dB0,dB1,dB2,false,false,dB5,dB6,dB7,false,dB9,o9,n5,false,p7,p1,n8,false,p5,o8,n6,false,p8,o6,n7,false,p9,p2,n9,false,p6,p0,o7,false,false,false]=dn→dwp T ⟨Real Tryz.prog,RealM Tryz.prog,RealC Tryz.prog⟩ dR dK dn [dB0,dB1,dB2,false,false,dB5,dB6,dB7,false,dB9,o9,n5,false,p7,p1,n8,false,p5,o8,n6,false,p8,o6,n7,false,p9,p2,n9,false,p6,p0,o7,false,false,false] ({sl:=[.agg [.ii f5,.ii g5,.ii l7,.ii j7,.ii g7,.str j4,.str j2,.str j3],.pt 1 0 0,.str (ByteArray.mk #[]),.bool false,.agg [.ii f5,.ii g5,.ii l7,.ii j7,.ii g7,.str j4,.str j2,.str j3],.bool q0,.bool (A.bnot q0),dQ0,dQ1,dQ2,.bad,.bad,dQ5,dQ6,dQ7,.bad,dQ9,r5,r6,.bad,t0,s0,s6,.bad,r7,r4,s5,.bad,r9,s4,r8,.bad,s1,t2,s2,.bad,s7,t1,s9,.bad],bl:=[(1,⟨.var,8,[[.ii f5,.ii g5,.ii l7,.ii j7,.ii g7,.str j4,.str j2,.str j3]]⟩)]}:St):=by
   intro dn
   induction dn with
   | zero=>
    intro dB0 dB1 dB2 dB5 dB6 dB7 dB9 o9 n5 p7 p1 n8 p5 o8 n6 p8 o6 n7 p9 p2 n9 p6 p0 o7 dQ0 dQ1 dQ2 dQ5 dQ6 dQ7 dQ9 r5 r6 t0 s0 s6 r7 r4 s5 r9 s4 r8 s1 t2 s2 s7 t1 s9 dh0 dh1 dh2 dh5 dh6 dh7 dh9 d2 d6 c6 c1 d7 d4 c2 c8 d5 c0 d3 d1 d0 d9 c9 d8 c7 n2 n3 b8 b9 b6 a7 b7 b0 a6 b5 a2 a5 b4 a9 a4 b3 a8 a0 b2 a1 a3 b1 dhn
    exact absurd (show false=true from cntF_zero _ dhn 3 (by show 3 < 35;decide)) (by decide)
   | succ dn ih=>
    intro dB0 dB1 dB2 dB5 dB6 dB7 dB9 o9 n5 p7 p1 n8 p5 o8 n6 p8 o6 n7 p9 p2 n9 p6 p0 o7 dQ0 dQ1 dQ2 dQ5 dQ6 dQ7 dQ9 r5 r6 t0 s0 s6 r7 r4 s5 r9 s4 r8 s1 t2 s2 s7 t1 s9 dh0 dh1 dh2 dh5 dh6 dh7 dh9 d2 d6 c6 c1 d7 d4 c2 c8 d5 c0 d3 d1 d0 d9 c9 d8 c7 n2 n3 b8 b9 b6 a7 b7 b0 a6 b5 a2 a5 b4 a9 a4 b3 a8 a0 b2 a1 a3 b1 dhn
    subst dhR
    refine dwp_next (is:=[0,1,2,3,4,5,6,7,8,9,10,11,12,13,14,15,16,17,18,19,20,21,22,23,24,25,26,27,28,29,30,31,32,33,34]) rfl ?_
    refine aq (fun h0 h1=> ?_) ?_
    ·
     cases (show dB0=false from h0)
     refine rn hA 1 ?_
     refine ow_ ?_
     exact ih rf dh1 dh2 dh5 dh6 dh7 dh9 d2 d6 c6 c1 d7 d4 c2 c8 d5 c0 d3 d1 d0 d9 c9 d8 c7 rf n3 b8 b9 b6 a7 b7 b0 a6 b5 a2 a5 b4 a9 a4 b3 a8 a0 b2 a1 a3 b1 (cd h0 dhn)
    refine aq (fun h0 h1=> ?_) ?_
    ·
     cases (show dB1=false from h0)
     obtain rfl:dB0=true:=h1.1
     cases dh0 rfl
     refine rn hA 1 ?_
     refine ow_ ?_
     exact ih rf rf dh2 dh5 dh6 dh7 dh9 d2 d6 c6 c1 d7 d4 c2 c8 d5 c0 d3 d1 d0 d9 c9 d8 c7 rf rf b8 b9 b6 a7 b7 b0 a6 b5 a2 a5 b4 a9 a4 b3 a8 a0 b2 a1 a3 b1 (cd h0 dhn)
    refine aq (fun h0 h1=> ?_) ?_
    ·
     cases (show dB2=false from h0)
     obtain rfl:dB1=true:=h1.1
     cases dh1 rfl;cases n2 rfl;cases dh0 rfl
     refine rn hA 1 ?_
     refine ow_ ?_
     exact ih rf rf rf dh5 dh6 dh7 dh9 d2 d6 c6 c1 d7 d4 c2 c8 d5 c0 d3 d1 d0 d9 c9 d8 c7 rf rf b8 b9 b6 a7 b7 b0 a6 b5 a2 a5 b4 a9 a4 b3 a8 a0 b2 a1 a3 b1 (cd h0 dhn)
    refine aq (fun h0 h1=> ?_) ?_
    ·
     obtain rfl:dB2=true:=h1.1
     cases dh2 rfl;cases n3 rfl;cases dh1 rfl;cases n2 rfl;cases dh0 rfl
     refine rn hA 1 ?_
     refine ops_done (dwp_to [.up 10,.up 1] (by cbv) rfl ?_)
     exact H_3 dn nf dh5 dh6 dh7 nf dh9 d2 d6 nf c6 c1 d7 nf d4 c2 c8 nf d5 c0 d3 nf d1 d0 d9 nf c9 d8 c7 nf nf nf b8 b9 nf nf b6 a7 b7 nf nf b0 a6 b5 nf nf a2 a5 b4 nf nf a9 a4 b3 nf nf a8 a0 b2 nf nf a1 a3 b1 nf nf nf nf nf nf nf nf nf nf nf nf nf nf nf nf nf nf nf nf nf nf nf nf nf nf nf nf nf nf nf nf nf nf nf nf nf nf nf nf nf nf nf nf nf nf nf nf nf nf nf nf nf nf nf nf nf nf nf nf nf (cd h0 dhn)
    refine allRdy_q rfl rfl (fun _ h1=>absurd (show false=true from h1.1) (by decide)) ?_
    refine aq (fun h0 h1=> ?_) ?_
    ·
     cases (show dB5=false from h0)
     refine rn hA 1 ?_
     refine ow_ ?_
     exact ih dh0 dh1 dh2 rf dh6 dh7 dh9 d2 d6 c6 c1 d7 d4 c2 c8 d5 c0 d3 d1 d0 d9 c9 d8 c7 n2 n3 rf b9 b6 a7 b7 b0 a6 b5 a2 a5 b4 a9 a4 b3 a8 a0 b2 a1 a3 b1 (cd h0 dhn)
    refine aq (fun h0 h1=> ?_) ?_
    ·
     cases (show dB6=false from h0)
     obtain rfl:dB5=true:=h1.1
     cases dh5 rfl
     refine rn hA 1 ?_
     refine ow_ ?_
     exact ih dh0 dh1 dh2 rf rf dh7 dh9 d2 d6 c6 c1 d7 d4 c2 c8 d5 c0 d3 d1 d0 d9 c9 d8 c7 n2 n3 rf rf b6 a7 b7 b0 a6 b5 a2 a5 b4 a9 a4 b3 a8 a0 b2 a1 a3 b1 (cd h0 dhn)
    refine aq (fun h0 h1=> ?_) ?_
    ·
     cases (show dB7=false from h0)
     obtain rfl:dB6=true:=h1.1
     cases dh6 rfl;cases b8 rfl;cases dh5 rfl
     refine cvw hc7 (.inr rfl) ?_
     refine ow_ ?_
     exact ih dh0 dh1 dh2 rf rf rf dh9 d2 d6 c6 c1 d7 d4 c2 c8 d5 c0 d3 d1 d0 d9 c9 d8 c7 n2 n3 rf rf b6 a7 rf b0 a6 b5 a2 a5 b4 a9 a4 b3 a8 a0 b2 a1 a3 b1 (cd h0 dhn)
    refine allRdy_q rfl rfl (fun _ h1=>absurd (show false=true from h1.1) (by decide)) ?_
    refine aq (fun h0 h1=> ?_) ?_
    ·
     cases (show dB9=false from h0)
     refine rn hA 1 ?_
     refine ow_ ?_
     exact ih dh0 dh1 dh2 dh5 dh6 dh7 rf d2 d6 c6 c1 d7 d4 c2 c8 d5 c0 d3 d1 d0 d9 c9 d8 c7 n2 n3 b8 b9 rf a7 b7 b0 a6 b5 a2 a5 b4 a9 a4 b3 a8 a0 b2 a1 a3 b1 (cd h0 dhn)
    refine aq (fun h0 h1=> ?_) ?_
    ·
     cases (show o9=false from h0)
     obtain rfl:dB9=true:=h1.1
     cases dh9 rfl
     refine rn hA 1 ?_
     refine ow_ ?_
     exact ih dh0 dh1 dh2 dh5 dh6 dh7 rf rf d6 c6 c1 d7 d4 c2 c8 d5 c0 d3 d1 d0 d9 c9 d8 c7 n2 n3 b8 b9 rf rf b7 b0 a6 b5 a2 a5 b4 a9 a4 b3 a8 a0 b2 a1 a3 b1 (cd h0 dhn)
    refine aq (fun h0 h1=> ?_) ?_
    ·
     cases (show n5=false from h0)
     obtain rfl:o9=true:=h1.1
     cases d2 rfl;cases b6 rfl;cases dh9 rfl
     obtain rfl:dB7=true:=h1.2.1
     cases dh7 rfl;cases b9 rfl;cases dh6 rfl;cases b8 rfl;cases dh5 rfl
     refine cvw w1 (.inr rfl) ?_
     refine ow_ ?_
     exact ih dh0 dh1 dh2 rf rf rf rf rf rf c6 c1 d7 d4 c2 c8 d5 c0 d3 d1 d0 d9 c9 d8 c7 n2 n3 rf rf rf rf rf b0 a6 rf a2 a5 b4 a9 a4 b3 a8 a0 b2 a1 a3 b1 (cd h0 dhn)
    refine allRdy_q rfl rfl (fun _ h1=>absurd (show false=true from h1.1) (by decide)) ?_
    refine aq (fun h0 h1=> ?_) ?_
    ·
     cases (show p7=false from h0)
     refine rn hA 1 ?_
     refine ow_ ?_
     exact ih dh0 dh1 dh2 dh5 dh6 dh7 dh9 d2 d6 rf c1 d7 d4 c2 c8 d5 c0 d3 d1 d0 d9 c9 d8 c7 n2 n3 b8 b9 b6 a7 b7 rf a6 b5 a2 a5 b4 a9 a4 b3 a8 a0 b2 a1 a3 b1 (cd h0 dhn)
    refine aq (fun h0 h1=> ?_) ?_
    ·
     cases (show p1=false from h0)
     obtain rfl:p7=true:=h1.1
     cases c6 rfl
     refine rn hA 1 ?_
     refine ow_ ?_
     exact ih dh0 dh1 dh2 dh5 dh6 dh7 dh9 d2 d6 rf rf d7 d4 c2 c8 d5 c0 d3 d1 d0 d9 c9 d8 c7 n2 n3 b8 b9 b6 a7 b7 rf rf b5 a2 a5 b4 a9 a4 b3 a8 a0 b2 a1 a3 b1 (cd h0 dhn)
    refine aq (fun h0 h1=> ?_) ?_
    ·
     cases (show n8=false from h0)
     obtain rfl:p1=true:=h1.1
     cases c1 rfl;cases b0 rfl;cases c6 rfl
     obtain rfl:n5=true:=h1.2.1
     cases d6 rfl;cases a7 rfl;cases d2 rfl;cases b6 rfl;cases dh9 rfl;cases b7 rfl;cases dh7 rfl;cases b9 rfl;cases dh6 rfl;cases b8 rfl;cases dh5 rfl
     refine cvw v6 (.inr rfl) ?_
     refine ow_ ?_
     exact ih dh0 dh1 dh2 rf rf rf rf rf rf rf rf rf d4 c2 c8 d5 c0 d3 d1 d0 d9 c9 d8 c7 n2 n3 rf rf rf rf rf rf rf rf a2 a5 rf a9 a4 b3 a8 a0 b2 a1 a3 b1 (cd h0 dhn)
    refine allRdy_q rfl rfl (fun _ h1=>absurd (show false=true from h1.1) (by decide)) ?_
    refine aq (fun h0 h1=> ?_) ?_
    ·
     cases (show p5=false from h0)
     refine rn hA 1 ?_
     refine ow_ ?_
     exact ih dh0 dh1 dh2 dh5 dh6 dh7 dh9 d2 d6 c6 c1 d7 rf c2 c8 d5 c0 d3 d1 d0 d9 c9 d8 c7 n2 n3 b8 b9 b6 a7 b7 b0 a6 b5 rf a5 b4 a9 a4 b3 a8 a0 b2 a1 a3 b1 (cd h0 dhn)
    refine aq (fun h0 h1=> ?_) ?_
    ·
     cases (show o8=false from h0)
     obtain rfl:p5=true:=h1.1
     cases d4 rfl
     refine rn hA 1 ?_
     refine ow_ ?_
     exact ih dh0 dh1 dh2 dh5 dh6 dh7 dh9 d2 d6 c6 c1 d7 rf rf c8 d5 c0 d3 d1 d0 d9 c9 d8 c7 n2 n3 b8 b9 b6 a7 b7 b0 a6 b5 rf rf b4 a9 a4 b3 a8 a0 b2 a1 a3 b1 (cd h0 dhn)
    refine aq (fun h0 h1=> ?_) ?_
    ·
     cases (show n6=false from h0)
     obtain rfl:o8=true:=h1.1
     cases c2 rfl;cases a2 rfl;cases d4 rfl
     obtain rfl:n8=true:=h1.2.1
     cases d7 rfl;cases a6 rfl;cases c1 rfl;cases b0 rfl;cases c6 rfl;cases b5 rfl;cases d6 rfl;cases a7 rfl;cases d2 rfl;cases b6 rfl;cases dh9 rfl;cases b7 rfl;cases dh7 rfl;cases b9 rfl;cases dh6 rfl;cases b8 rfl;cases dh5 rfl
     refine cvw v9 (.inr rfl) ?_
     refine ow_ ?_
     exact ih dh0 dh1 dh2 rf rf rf rf rf rf rf rf rf rf rf rf d5 c0 d3 d1 d0 d9 c9 d8 c7 n2 n3 rf rf rf rf rf rf rf rf rf rf rf a9 a4 rf a8 a0 b2 a1 a3 b1 (cd h0 dhn)
    refine allRdy_q rfl rfl (fun _ h1=>absurd (show false=true from h1.1) (by decide)) ?_
    refine aq (fun h0 h1=> ?_) ?_
    ·
     cases (show p8=false from h0)
     refine rn hA 1 ?_
     refine ow_ ?_
     exact ih dh0 dh1 dh2 dh5 dh6 dh7 dh9 d2 d6 c6 c1 d7 d4 c2 c8 rf c0 d3 d1 d0 d9 c9 d8 c7 n2 n3 b8 b9 b6 a7 b7 b0 a6 b5 a2 a5 b4 rf a4 b3 a8 a0 b2 a1 a3 b1 (cd h0 dhn)
    refine aq (fun h0 h1=> ?_) ?_
    ·
     cases (show o6=false from h0)
     obtain rfl:p8=true:=h1.1
     cases d5 rfl
     refine rn hA 1 ?_
     refine ow_ ?_
     exact ih dh0 dh1 dh2 dh5 dh6 dh7 dh9 d2 d6 c6 c1 d7 d4 c2 c8 rf rf d3 d1 d0 d9 c9 d8 c7 n2 n3 b8 b9 b6 a7 b7 b0 a6 b5 a2 a5 b4 rf rf b3 a8 a0 b2 a1 a3 b1 (cd h0 dhn)
    refine aq (fun h0 h1=> ?_) ?_
    ·
     cases (show n7=false from h0)
     obtain rfl:o6=true:=h1.1
     cases c0 rfl;cases a9 rfl;cases d5 rfl
     obtain rfl:n6=true:=h1.2.1
     cases c8 rfl;cases a5 rfl;cases c2 rfl;cases a2 rfl;cases d4 rfl;cases b4 rfl;cases d7 rfl;cases a6 rfl;cases c1 rfl;cases b0 rfl;cases c6 rfl;cases b5 rfl;cases d6 rfl;cases a7 rfl;cases d2 rfl;cases b6 rfl;cases dh9 rfl;cases b7 rfl;cases dh7 rfl;cases b9 rfl;cases dh6 rfl;cases b8 rfl;cases dh5 rfl
     refine cvw v8 (.inr rfl) ?_
     refine ow_ ?_
     exact ih dh0 dh1 dh2 rf rf rf rf rf rf rf rf rf rf rf rf rf rf rf d1 d0 d9 c9 d8 c7 n2 n3 rf rf rf rf rf rf rf rf rf rf rf rf rf rf a8 a0 rf a1 a3 b1 (cd h0 dhn)
    refine allRdy_q rfl rfl (fun _ h1=>absurd (show false=true from h1.1) (by decide)) ?_
    refine aq (fun h0 h1=> ?_) ?_
    ·
     cases (show p9=false from h0)
     refine rn hA 1 ?_
     refine ow_ ?_
     exact ih dh0 dh1 dh2 dh5 dh6 dh7 dh9 d2 d6 c6 c1 d7 d4 c2 c8 d5 c0 d3 rf d0 d9 c9 d8 c7 n2 n3 b8 b9 b6 a7 b7 b0 a6 b5 a2 a5 b4 a9 a4 b3 rf a0 b2 a1 a3 b1 (cd h0 dhn)
    refine aq (fun h0 h1=> ?_) ?_
    ·
     cases (show p2=false from h0)
     obtain rfl:p9=true:=h1.1
     cases d1 rfl
     refine rn hA 1 ?_
     refine ow_ ?_
     exact ih dh0 dh1 dh2 dh5 dh6 dh7 dh9 d2 d6 c6 c1 d7 d4 c2 c8 d5 c0 d3 rf rf d9 c9 d8 c7 n2 n3 b8 b9 b6 a7 b7 b0 a6 b5 a2 a5 b4 a9 a4 b3 rf rf b2 a1 a3 b1 (cd h0 dhn)
    refine aq (fun h0 h1=> ?_) ?_
    ·
     cases (show n9=false from h0)
     obtain rfl:p2=true:=h1.1
     cases d0 rfl;cases a8 rfl;cases d1 rfl
     obtain rfl:n7=true:=h1.2.1
     cases d3 rfl;cases a4 rfl;cases c0 rfl;cases a9 rfl;cases d5 rfl;cases b3 rfl;cases c8 rfl;cases a5 rfl;cases c2 rfl;cases a2 rfl;cases d4 rfl;cases b4 rfl;cases d7 rfl;cases a6 rfl;cases c1 rfl;cases b0 rfl;cases c6 rfl;cases b5 rfl;cases d6 rfl;cases a7 rfl;cases d2 rfl;cases b6 rfl;cases dh9 rfl;cases b7 rfl;cases dh7 rfl;cases b9 rfl;cases dh6 rfl;cases b8 rfl;cases dh5 rfl
     refine cvw v7 (.inr rfl) ?_
     refine ow_ ?_
     exact ih dh0 dh1 dh2 rf rf rf rf rf rf rf rf rf rf rf rf rf rf rf rf rf rf c9 d8 c7 n2 n3 rf rf rf rf rf rf rf rf rf rf rf rf rf rf rf rf rf a1 a3 rf (cd h0 dhn)
    refine allRdy_q rfl rfl (fun _ h1=>absurd (show false=true from h1.1) (by decide)) ?_
    refine aq (fun h0 h1=> ?_) ?_
    ·
     cases (show p6=false from h0)
     refine rn hA 1 ?_
     refine ow_ ?_
     exact ih dh0 dh1 dh2 dh5 dh6 dh7 dh9 d2 d6 c6 c1 d7 d4 c2 c8 d5 c0 d3 d1 d0 d9 rf d8 c7 n2 n3 b8 b9 b6 a7 b7 b0 a6 b5 a2 a5 b4 a9 a4 b3 a8 a0 b2 rf a3 b1 (cd h0 dhn)
    refine aq (fun h0 h1=> ?_) ?_
    ·
     cases (show p0=false from h0)
     obtain rfl:p6=true:=h1.1
     cases c9 rfl
     refine rn hA 1 ?_
     refine ow_ ?_
     exact ih dh0 dh1 dh2 dh5 dh6 dh7 dh9 d2 d6 c6 c1 d7 d4 c2 c8 d5 c0 d3 d1 d0 d9 rf rf c7 n2 n3 b8 b9 b6 a7 b7 b0 a6 b5 a2 a5 b4 a9 a4 b3 a8 a0 b2 rf rf b1 (cd h0 dhn)
    refine aq (fun h0 h1=> ?_) ?_
    ·
     cases (show o7=false from h0)
     obtain rfl:p0=true:=h1.1
     cases d8 rfl;cases a1 rfl;cases c9 rfl
     obtain rfl:n9=true:=h1.2.1
     cases d9 rfl;cases a0 rfl;cases d0 rfl;cases a8 rfl;cases d1 rfl;cases b2 rfl;cases d3 rfl;cases a4 rfl;cases c0 rfl;cases a9 rfl;cases d5 rfl;cases b3 rfl;cases c8 rfl;cases a5 rfl;cases c2 rfl;cases a2 rfl;cases d4 rfl;cases b4 rfl;cases d7 rfl;cases a6 rfl;cases c1 rfl;cases b0 rfl;cases c6 rfl;cases b5 rfl;cases d6 rfl;cases a7 rfl;cases d2 rfl;cases b6 rfl;cases dh9 rfl;cases b7 rfl;cases dh7 rfl;cases b9 rfl;cases dh6 rfl;cases b8 rfl;cases dh5 rfl
     refine cvw w0 (.inr rfl) ?_
     refine ow_ ?_
     exact ih dh0 dh1 dh2 rf rf rf rf rf rf rf rf rf rf rf rf rf rf rf rf rf rf rf rf rf n2 n3 rf rf rf rf rf rf rf rf rf rf rf rf rf rf rf rf rf rf rf rf (cd h0 dhn)
    refine allRdy_q rfl rfl (fun _ h1=>absurd (show false=true from h1.1) (by decide)) ?_
    refine allRdy_q rfl rfl (fun _ h1=>absurd (show false=true from h1.1) (by decide)) ?_
    refine allRdy_q rfl rfl (fun _ h1=>absurd (show false=true from h1.1) (by decide)) ?_
    exact trivial
  exact dwp_to [] (by cbv) rfl (@H_ 35 false false false false false false false false false false false false false false false false false false false false false false false false (.bad) (.bad) (.bad) (.bad) (.bad) (.bad) (.bad) (.bad) (.bad) (.bad) (.bad) (.bad) (.bad) (.bad) (.bad) (.bad) (.bad) (.bad) (.bad) (.bad) (.bad) (.bad) (.bad) (.bad) nf nf nf nf nf nf nf nf nf nf nf nf nf nf nf nf nf nf nf nf nf nf nf nf nf nf nf nf nf nf nf nf nf nf nf nf nf nf nf nf nf nf nf nf nf nf rfl)
 refine rt (gt ?_)
 show _=PV.tup [.str s26,.bool true]
 have E2:recT A (vtR A) (⟨f5,g5,l7,j7,g7,j4,j2,j3⟩:GRec)=s26:=by
  rw[recT,E,if_pos rfl]
  simp only[hs8,v4,v5,v2,v0,v3,v1,u9,u7,t7,t6,t4,t5,t8]
  rfl
 rw[E,E2]
end Go.Av
