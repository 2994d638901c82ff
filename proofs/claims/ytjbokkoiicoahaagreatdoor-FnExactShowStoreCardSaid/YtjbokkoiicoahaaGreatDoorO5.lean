/- Walks: frames. -/
import Derived.Test.YtjbokkoiicoahaaGreatDoorO4
namespace Go.Av
open Go Go.Proofs
set_option maxRecDepth 100000
set_option maxHeartbeats 4000000
set_option linter.unusedVariables false
set_option linter.unusedSimpArgs false
theorem r_impl_FrameOk (A:Alg)(hA:A=std)(f:GFrame)(hb:ByteArray.size f.Body≤10485760):Real Tryz.prog 96 [.agg (eFrame f)] (.bool (frameOk f)):=by
 obtain⟨a9,b0,a8⟩:=f
 refine real_args (args':=[.agg [.ii a9,.ii b0,.str a8]]) (by rfl) ?_
 have zb:=slen_eq hA a8
 refine real tyOk Tryz.func96 (by kernel_rfl) (afun_of rfl ?_)
 refine gx hA 2 ?_
 refine gs (gr (rn hA 2 ?_))
 obtain⟨b9,c0,hc2⟩:∃(b9:Bool),b9=(inR a9 1 1000000000)∧Real Tryz.prog 91 [.ii a9,.ii 1,.ii 1000000000] (.bool b9):=⟨_,rfl,by exact r_impl_in A hA a9 1 1000000000⟩
 refine cvw hc2 (.inr rfl) ?_
 refine rn hA 1 ?_
 refine ops_split 6 rfl (fun c3=> ?_) (fun c3=> ?_)
 ·
  refine rn hA 2 ?_
  obtain⟨d9,e3,hc5⟩:∃(d9:Bool),d9=(inR b0 1 1000000000)∧Real Tryz.prog 91 [.ii b0,.ii 1,.ii 1000000000] (.bool d9):=⟨_,rfl,by exact r_impl_in A hA b0 1 1000000000⟩
  refine ops_callG rfl rfl rfl rfl (by cbv) (by cbv) hc5 (.inr rfl) (by cbv) ?_
  refine rn hA 2 ?_
  refine ops_split 11 rfl (fun c6=> ?_) (fun c6=> ?_)
  ·
   refine rn hA 3 ?_
   obtain⟨d4,e6,hc8⟩:∃(d4:Bool),d4=(inR (A.slen a8) 1 180)∧Real Tryz.prog 91 [.ii (A.slen a8),.ii 1,.ii 180] (.bool d4):=⟨_,rfl,by exact r_impl_in A hA (A.slen a8) 1 180⟩
   refine ops_callG rfl rfl rfl rfl (by cbv) (by cbv) hc8 (.inr rfl) (by cbv) ?_
   refine rz hA 2 ?_
   refine rt (gt ?_)
   refine congrArg PV.bool ?_
   try simp only[slen_eq hA] at *
   subst e6 e3 c0
   subst hA
   simp[frameOk,std,c3,c6]
  refine rz hA 6 ?_
  refine rt (gt ?_)
  refine congrArg PV.bool ?_
  try simp only[slen_eq hA] at *
  subst e3 c0
  subst hA
  simp[frameOk,std,c3,c6]
 refine rz hA 11 ?_
 refine rt (gt ?_)
 refine congrArg PV.bool ?_
 try simp only[slen_eq hA] at *
 subst c0
 subst hA
 simp[frameOk,std,c3]
theorem r_impl_FrameText (A:Alg)(hA:A=std)(f:GFrame)(hb:ByteArray.size f.Body≤10485760):Real Tryz.prog 97 [.agg (eFrame f)] (.tup [.str (ftA A (vtI A) (stI A) f),.bool (ftB (vtI A) f)]):=by
 obtain⟨a9,b0,a8⟩:=f
 refine real_args (args':=[.agg [.ii a9,.ii b0,.str a8]]) (by rfl) ?_
 have zb:=slen_eq hA a8
 have hb:ByteArray.size a8≤10485760:=hb
 refine real tyOk Tryz.func97 (by kernel_rfl) (afun_of rfl ?_)
 refine gx hA 3 ?_
 refine gs (gs (gr (rn hA 1 ?_)))
 obtain⟨b9,c0,hc2⟩:∃(b9:Bool),b9=(frameOk (⟨a9,b0,a8⟩:GFrame))∧Real Tryz.prog 96 [.agg [.ii a9,.ii b0,.str a8]] (.bool b9):=⟨_,rfl,by exact r_impl_FrameOk A hA (⟨a9,b0,a8⟩:GFrame) (by assumption)⟩
 refine cvw hc2 (.inr rfl) ?_
 refine rz hA 1 ?_
 refine gc (fun c3=> ?_) (fun c3=> ?_)
 ·
  have c4:b9=false:=bnot_t hA c3
  refine gx hA 2 ?_
  refine rt (gt ?_)
  show _=PV.tup [.str (ByteArray.mk #[]),.bool false]
  have E:frameOk (⟨a9,b0,a8⟩:GFrame)=false:=by rw[← c0,c4]
  have E1:ftA A (vtI A) (stI A) (⟨a9,b0,a8⟩:GFrame)=ByteArray.mk #[]:=by unfold ftA;rw[if_neg (by rw[E];decide)]
  have E2:ftB (vtI A) (⟨a9,b0,a8⟩:GFrame)=false:=by unfold ftB;rw[E];rfl
  rw[E1,E2]
 have c5:b9=true:=bnot_f hA c3
 refine gk (gs ?_)
 have E:frameOk (⟨a9,b0,a8⟩:GFrame)=true:=by rw[← c0,c5]
 have hg:=frame_rng E
 have hg:1≤a9∧a9≤1000000000∧1≤b0∧b0≤1000000000∧ByteArray.size a8≤180:=hg
 refine go_draw [0,1,2,3,4,5,6,7,8,9,10,11,12,13,14,15,16,17,18,19] (by cbv) ?_
 refine dn_ hA 2 ?_
 obtain⟨c1,e4,hc7⟩:∃(c1:ByteArray),c1=(strOfNums (vtI A a9))∧Real Tryz.prog 131 [.ii a9] (.str c1):=⟨_,rfl,by exact r_impl_varText A hA a9 (by omega) (by omega)⟩
 have f5:ByteArray.size c1≤5:=by rw[e4,strN_size,vtI_len];exact vln_le _ (by omega)
 refine dops_callV rfl rfl (by cbv) (by cbv) hc7 (.inr rfl) ?_
 refine dn_ hA 2 ?_
 obtain⟨b6,d5,hc9⟩:∃(b6:ByteArray),b6=(strOfNums (vtI A b0))∧Real Tryz.prog 131 [.ii b0] (.str b6):=⟨_,rfl,by exact r_impl_varText A hA b0 (by omega) (by omega)⟩
 have f4:ByteArray.size b6≤5:=by rw[d5,strN_size,vtI_len];exact vln_le _ (by omega)
 refine dops_callV rfl rfl (by cbv) (by cbv) hc9 (.inr rfl) ?_
 obtain⟨s10,d7⟩:=nm (c1++b6:ByteArray)
 have f7:ByteArray.size s10=ByteArray.size c1+ByteArray.size b6:=by rw[d7];exact ByteArray.size_append
 have e9:ByteArray.size c1+ByteArray.size b6≤140737488355328:=by
  omega
 refine dops_step rfl rfl rfl (str_add rfl rfl rfl d7 e9) ?_
 refine dn_ hA 3 ?_
 obtain⟨b3,d3,e8⟩:∃(b3:ByteArray),b3=(strOfNums (vtI A (A.slen a8)))∧Real Tryz.prog 131 [.ii (A.slen a8)] (.str b3):=⟨_,rfl,by exact r_impl_varText A hA (A.slen a8) (by omega) (by omega)⟩
 have f2:ByteArray.size b3≤5:=by rw[d3,strN_size,vtI_len];exact vln_le _ (by omega)
 refine dops_callV rfl rfl (by cbv) (by cbv) e8 (.inr rfl) ?_
 obtain⟨s13,d8⟩:=nm (s10++b3:ByteArray)
 have f8:ByteArray.size s13=ByteArray.size s10+ByteArray.size b3:=by rw[d8];exact ByteArray.size_append
 have e7:ByteArray.size s10+ByteArray.size b3≤140737488355328:=by
  omega
 refine dops_step rfl rfl rfl (str_add rfl rfl rfl d8 e7) ?_
 refine dn_ hA 2 ?_
 obtain⟨s14,e0⟩:=nm (s13++a8:ByteArray)
 have f6:ByteArray.size s14=ByteArray.size s13+ByteArray.size a8:=by rw[e0];exact ByteArray.size_append
 have f0:ByteArray.size s13+ByteArray.size a8≤140737488355328:=by
  omega
 refine dops_step rfl rfl rfl (str_add rfl rfl rfl e0 f0) ?_
 obtain⟨b5,b7,d1,d0,f1⟩:∃(b5:ByteArray) (b7:Bool),b5=(sealedA A (stI A) s14)∧b7=(sealedB s14)∧Real Tryz.prog 132 [.str s14] (.tup [.str b5,.bool b7]):=⟨_,_,rfl,rfl,by exact r_impl_Sealed A hA s14 (by omega)⟩
 refine dops_callV rfl rfl (by cbv) (by cbv) f1 (.inr rfl) ?_
 refine dz hA 4 ?_
 refine rt (gt ?_)
 show _=PV.tup [.str b5,.bool b7]
 have eb:bodyA (vtI A) (⟨a9,b0,a8⟩:GFrame)=s14:=by
  simp only[d7,d8,e0,e4,d5,d3,d1,d0]
  rw[zb]
  rfl
 have E1:ftA A (vtI A) (stI A) (⟨a9,b0,a8⟩:GFrame)=sealedA A (stI A) s14:=by unfold ftA;rw[if_pos E,eb]
 have E2:ftB (vtI A) (⟨a9,b0,a8⟩:GFrame)=sealedB s14:=by unfold ftB;rw[E,eb];rfl
 rw[E1,E2]
 simp only[d1,d0]
theorem r_impl_FrameSize (A:Alg)(hA:A=std)(f:GFrame)(hb:ByteArray.size f.Body≤10485760):Real Tryz.prog 68 [.agg (eFrame f)] (.ii (fsz f)):=by
 obtain⟨a9,b0,a8⟩:=f
 refine real_args (args':=[.agg [.ii a9,.ii b0,.str a8]]) (by rfl) ?_
 refine real tyOk Tryz.func68 (by kernel_rfl) (afun_of rfl ?_)
 refine gx hA 2 ?_
 refine gs (gr (rn hA 1 ?_))
 obtain⟨c7,d2,e5,f3,hc2⟩:∃(c7:ByteArray) (d2:Bool),c7=(ftA A (vtI A) (stI A) (⟨a9,b0,a8⟩:GFrame))∧d2=(ftB (vtI A) (⟨a9,b0,a8⟩:GFrame))∧Real Tryz.prog 97 [.agg [.ii a9,.ii b0,.str a8]] (.tup [.str c7,.bool d2]):=⟨_,_,rfl,rfl,by exact r_impl_FrameText A hA (⟨a9,b0,a8⟩:GFrame) (by assumption)⟩
 refine cvw hc2 (.inr rfl) ?_
 refine rz hA 5 ?_
 refine gx hA 3 ?_
 refine rt (gt ?_)
 show _=(PV.int .i64 (A.slen c7))
 refine congrArg (PV.int .i64) ?_
 rw[slen_eq hA,e5]
 exact(ft_size (vtI_len A) _).symm
theorem r_impl_ItemFrame (A:Alg)(hA:A=std)(x:GItem)(gen:Int)(hz:∀ q∈zsRec x.Rec,q≤1048576):Real Tryz.prog 67 [.agg (eItem x),.ii gen] (.tup [.agg (eFrame (frI A (vtI A) x gen)),.bool (frOk A (vtI A) x gen)]):=by
 obtain⟨b1,⟨a2,a1,a7,a4,a0,a5,a3,a6⟩⟩:=x
 refine real_args (args':=[.agg [.ii b1,.ii a2,.ii a1,.ii a7,.ii a4,.ii a0,.str a5,.str a3,.str a6],.ii gen]) (by rfl) ?_
 have hz:∀ q∈zsRec (⟨a2,a1,a7,a4,a0,a5,a3,a6⟩:GRec),q≤1048576:=hz
 refine real tyOk Tryz.func67 (by kernel_rfl) (afun_of rfl ?_)
 refine gx hA 3 ?_
 refine gs (gr (rn hA 2 ?_))
 obtain⟨b2,b4,b8,c2,hc2⟩:∃(b2:ByteArray) (b4:Bool),b2=(recT A (vtI A) (⟨a2,a1,a7,a4,a0,a5,a3,a6⟩:GRec))∧b4=(recOk (⟨a2,a1,a7,a4,a0,a5,a3,a6⟩:GRec))∧Real Tryz.prog 95 [.agg [.ii a2,.ii a1,.ii a7,.ii a4,.ii a0,.str a5,.str a3,.str a6]] (.tup [.str b2,.bool b4]):=⟨_,_,rfl,rfl,by exact r_impl_RecText A hA (⟨a2,a1,a7,a4,a0,a5,a3,a6⟩:GRec) (by assumption)⟩
 refine cvw hc2 (.inr rfl) ?_
 refine rz hA 5 ?_
 refine gs ?_
 have zb:ByteArray.size b2≤10485760:=by rw[b8];exact recT_size (vtI_len A) hz (ofB1_size hA _)
 refine gy hA 7 ?_
 refine gs (gs (gr (rn hA 3 ?_)))
 refine ops_split 22 rfl (fun c3=> ?_) (fun c3=> ?_)
 ·
  have c4:b4=false:=bnot_t hA c3
  refine rz hA 4 ?_
  refine gc (fun c5=> ?_) (fun c5=> ?_)
  ·
   refine gx hA 3 ?_
   refine rt (gt ?_)
   show _=PV.tup [.agg [.ii 0,.ii 0,.str ByteArray.empty],.bool false]
   have e1:recOk (⟨a2,a1,a7,a4,a0,a5,a3,a6⟩:GRec)=false:=by rw[← c2,c4]
   have E:frOk A (vtI A) (⟨b1,⟨a2,a1,a7,a4,a0,a5,a3,a6⟩⟩:GItem) gen=false:=by
    unfold frOk
    show(recOk (⟨a2,a1,a7,a4,a0,a5,a3,a6⟩:GRec) && _)=_
    rw[e1]
    rfl
   have E3:frI A (vtI A) (⟨b1,⟨a2,a1,a7,a4,a0,a5,a3,a6⟩⟩:GItem) gen=⟨0,0,ByteArray.empty⟩:=by
    unfold frI
    rw[if_neg (by rw[E];decide)]
   rw[E,E3]
   rfl
  exact no_f c5 (show true=true from by rfl)
 have c6:b4=true:=bnot_f hA c3
 refine rn hA 1 ?_
 obtain⟨c8,d6,hc8⟩:∃(c8:Bool),c8=(frameOk (⟨gen,b1,b2⟩:GFrame))∧Real Tryz.prog 96 [.agg [.ii gen,.ii b1,.str b2]] (.bool c8):=⟨_,rfl,by exact r_impl_FrameOk A hA (⟨gen,b1,b2⟩:GFrame) (by assumption)⟩
 refine ops_callG rfl rfl rfl rfl (by cbv) (by cbv) hc8 (.inr rfl) (by cbv) ?_
 refine rz hA 2 ?_
 refine gc (fun c9=> ?_) (fun c9=> ?_)
 ·
  have c10:c8=false:=bnot_t hA c9
  refine gx hA 3 ?_
  refine rt (gt ?_)
  show _=PV.tup [.agg [.ii 0,.ii 0,.str ByteArray.empty],.bool false]
  have e1:recOk (⟨a2,a1,a7,a4,a0,a5,a3,a6⟩:GRec)=true:=by rw[← c2,c6]
  have e2:frameOk (frA A (vtI A) (⟨b1,⟨a2,a1,a7,a4,a0,a5,a3,a6⟩⟩:GItem) gen)=false:=by
   show frameOk (⟨gen,b1,recT A (vtI A) (⟨a2,a1,a7,a4,a0,a5,a3,a6⟩:GRec)⟩:GFrame)=_
   rw[← b8,← d6,c10]
  have E:frOk A (vtI A) (⟨b1,⟨a2,a1,a7,a4,a0,a5,a3,a6⟩⟩:GItem) gen=false:=by
   unfold frOk
   rw[e2]
   show(recOk (⟨a2,a1,a7,a4,a0,a5,a3,a6⟩:GRec) && _)=_
   rw[e1]
   rfl
  have E3:frI A (vtI A) (⟨b1,⟨a2,a1,a7,a4,a0,a5,a3,a6⟩⟩:GItem) gen=⟨0,0,ByteArray.empty⟩:=by
   unfold frI
   rw[if_neg (by rw[E];decide)]
  rw[E,E3]
  rfl
 have c11:c8=true:=bnot_f hA c9
 refine gk (gx hA 3 ?_)
 refine rt (gt ?_)
 show _=PV.tup [.agg [.ii gen,.ii b1,.str b2],.bool true]
 have e1:recOk (⟨a2,a1,a7,a4,a0,a5,a3,a6⟩:GRec)=true:=by rw[← c2,c6]
 have e2:frameOk (frA A (vtI A) (⟨b1,⟨a2,a1,a7,a4,a0,a5,a3,a6⟩⟩:GItem) gen)=true:=by
  show frameOk (⟨gen,b1,recT A (vtI A) (⟨a2,a1,a7,a4,a0,a5,a3,a6⟩:GRec)⟩:GFrame)=_
  rw[← b8,← d6,c11]
 have E:frOk A (vtI A) (⟨b1,⟨a2,a1,a7,a4,a0,a5,a3,a6⟩⟩:GItem) gen=true:=by
  unfold frOk
  rw[e2]
  show(recOk (⟨a2,a1,a7,a4,a0,a5,a3,a6⟩:GRec) && _)=_
  rw[e1]
  rfl
 have E3:frI A (vtI A) (⟨b1,⟨a2,a1,a7,a4,a0,a5,a3,a6⟩⟩:GItem) gen=⟨gen,b1,b2⟩:=by
  unfold frI
  rw[if_pos E,b8]
  rfl
 rw[E,E3]
 rfl
theorem r_spec_FrameOk (A:Alg)(hA:A=std)(f:GFrame)(hb:ByteArray.size f.Body≤10485760):Real Tryz.prog 84 [.agg (eFrame f)] (.bool (frameOk f)):=by
 obtain⟨a9,b0,a8⟩:=f
 refine real_args (args':=[.agg [.ii a9,.ii b0,.str a8]]) (by rfl) ?_
 have zb:=slen_eq hA a8
 refine real tyOk Tryz.func84 (by kernel_rfl) (afun_of rfl ?_)
 refine gx hA 2 ?_
 refine gs (gr (rn hA 2 ?_))
 obtain⟨b9,c0,hc2⟩:∃(b9:Bool),b9=(inR a9 1 1000000000)∧Real Tryz.prog 86 [.ii a9,.ii 1,.ii 1000000000] (.bool b9):=⟨_,rfl,by exact r_spec_l01In A hA a9 1 1000000000⟩
 refine cvw hc2 (.inr rfl) ?_
 refine rn hA 1 ?_
 refine ops_split 6 rfl (fun c3=> ?_) (fun c3=> ?_)
 ·
  refine rn hA 2 ?_
  obtain⟨d9,e3,hc5⟩:∃(d9:Bool),d9=(inR b0 1 1000000000)∧Real Tryz.prog 86 [.ii b0,.ii 1,.ii 1000000000] (.bool d9):=⟨_,rfl,by exact r_spec_l01In A hA b0 1 1000000000⟩
  refine ops_callG rfl rfl rfl rfl (by cbv) (by cbv) hc5 (.inr rfl) (by cbv) ?_
  refine rn hA 2 ?_
  refine ops_split 11 rfl (fun c6=> ?_) (fun c6=> ?_)
  ·
   refine rn hA 3 ?_
   obtain⟨d4,e6,hc8⟩:∃(d4:Bool),d4=(inR (A.slen a8) 1 180)∧Real Tryz.prog 86 [.ii (A.slen a8),.ii 1,.ii 180] (.bool d4):=⟨_,rfl,by exact r_spec_l01In A hA (A.slen a8) 1 180⟩
   refine ops_callG rfl rfl rfl rfl (by cbv) (by cbv) hc8 (.inr rfl) (by cbv) ?_
   refine rz hA 2 ?_
   refine rt (gt ?_)
   refine congrArg PV.bool ?_
   try simp only[slen_eq hA] at *
   subst e6 e3 c0
   subst hA
   simp[frameOk,std,c3,c6]
  refine rz hA 6 ?_
  refine rt (gt ?_)
  refine congrArg PV.bool ?_
  try simp only[slen_eq hA] at *
  subst e3 c0
  subst hA
  simp[frameOk,std,c3,c6]
 refine rz hA 11 ?_
 refine rt (gt ?_)
 refine congrArg PV.bool ?_
 try simp only[slen_eq hA] at *
 subst c0
 subst hA
 simp[frameOk,std,c3]
theorem r_spec_FrameText (A:Alg)(hA:A=std)(f:GFrame)(hb:ByteArray.size f.Body≤10485760):Real Tryz.prog 85 [.agg (eFrame f)] (.tup [.str (ftA A (vtR A) (stR A) f),.bool (ftB (vtR A) f)]):=by
 obtain⟨a9,b0,a8⟩:=f
 refine real_args (args':=[.agg [.ii a9,.ii b0,.str a8]]) (by rfl) ?_
 have zb:=slen_eq hA a8
 have hb:ByteArray.size a8≤10485760:=hb
 refine real tyOk Tryz.func85 (by kernel_rfl) (afun_of rfl ?_)
 refine gx hA 3 ?_
 refine gs (gs (gr (rn hA 1 ?_)))
 obtain⟨b9,c0,hc2⟩:∃(b9:Bool),b9=(frameOk (⟨a9,b0,a8⟩:GFrame))∧Real Tryz.prog 84 [.agg [.ii a9,.ii b0,.str a8]] (.bool b9):=⟨_,rfl,by exact r_spec_FrameOk A hA (⟨a9,b0,a8⟩:GFrame) (by assumption)⟩
 refine cvw hc2 (.inr rfl) ?_
 refine rz hA 1 ?_
 refine gc (fun c3=> ?_) (fun c3=> ?_)
 ·
  have c4:b9=false:=bnot_t hA c3
  refine gx hA 2 ?_
  refine rt (gt ?_)
  show _=PV.tup [.str (ByteArray.mk #[]),.bool false]
  have E:frameOk (⟨a9,b0,a8⟩:GFrame)=false:=by rw[← c0,c4]
  have E1:ftA A (vtR A) (stR A) (⟨a9,b0,a8⟩:GFrame)=ByteArray.mk #[]:=by unfold ftA;rw[if_neg (by rw[E];decide)]
  have E2:ftB (vtR A) (⟨a9,b0,a8⟩:GFrame)=false:=by unfold ftB;rw[E];rfl
  rw[E1,E2]
 have c5:b9=true:=bnot_f hA c3
 refine gk (gs ?_)
 have E:frameOk (⟨a9,b0,a8⟩:GFrame)=true:=by rw[← c0,c5]
 have hg:=frame_rng E
 have hg:1≤a9∧a9≤1000000000∧1≤b0∧b0≤1000000000∧ByteArray.size a8≤180:=hg
 refine go_draw [0,1,2,3,4,5,6,7,8,9,10,11,12,13,14,15,16,17,18,19] (by cbv) ?_
 refine dn_ hA 2 ?_
 obtain⟨c1,e4,hc7⟩:∃(c1:ByteArray),c1=(strOfNums (vtR A a9))∧Real Tryz.prog 120 [.ii a9] (.str c1):=⟨_,rfl,by exact r_spec_l01Var A hA a9 (by omega) (by omega)⟩
 have f5:ByteArray.size c1≤5:=by rw[e4,strN_size,vtR_len];exact vln_le _ (by omega)
 refine dops_callV rfl rfl (by cbv) (by cbv) hc7 (.inr rfl) ?_
 refine dn_ hA 2 ?_
 obtain⟨b6,d5,hc9⟩:∃(b6:ByteArray),b6=(strOfNums (vtR A b0))∧Real Tryz.prog 120 [.ii b0] (.str b6):=⟨_,rfl,by exact r_spec_l01Var A hA b0 (by omega) (by omega)⟩
 have f4:ByteArray.size b6≤5:=by rw[d5,strN_size,vtR_len];exact vln_le _ (by omega)
 refine dops_callV rfl rfl (by cbv) (by cbv) hc9 (.inr rfl) ?_
 obtain⟨s10,d7⟩:=nm (c1++b6:ByteArray)
 have f7:ByteArray.size s10=ByteArray.size c1+ByteArray.size b6:=by rw[d7];exact ByteArray.size_append
 have e9:ByteArray.size c1+ByteArray.size b6≤140737488355328:=by
  omega
 refine dops_step rfl rfl rfl (str_add rfl rfl rfl d7 e9) ?_
 refine dn_ hA 3 ?_
 obtain⟨b3,d3,e8⟩:∃(b3:ByteArray),b3=(strOfNums (vtR A (A.slen a8)))∧Real Tryz.prog 120 [.ii (A.slen a8)] (.str b3):=⟨_,rfl,by exact r_spec_l01Var A hA (A.slen a8) (by omega) (by omega)⟩
 have f2:ByteArray.size b3≤5:=by rw[d3,strN_size,vtR_len];exact vln_le _ (by omega)
 refine dops_callV rfl rfl (by cbv) (by cbv) e8 (.inr rfl) ?_
 obtain⟨s13,d8⟩:=nm (s10++b3:ByteArray)
 have f8:ByteArray.size s13=ByteArray.size s10+ByteArray.size b3:=by rw[d8];exact ByteArray.size_append
 have e7:ByteArray.size s10+ByteArray.size b3≤140737488355328:=by
  omega
 refine dops_step rfl rfl rfl (str_add rfl rfl rfl d8 e7) ?_
 refine dn_ hA 2 ?_
 obtain⟨s14,e0⟩:=nm (s13++a8:ByteArray)
 have f6:ByteArray.size s14=ByteArray.size s13+ByteArray.size a8:=by rw[e0];exact ByteArray.size_append
 have f0:ByteArray.size s13+ByteArray.size a8≤140737488355328:=by
  omega
 refine dops_step rfl rfl rfl (str_add rfl rfl rfl e0 f0) ?_
 obtain⟨b5,b7,d1,d0,f1⟩:∃(b5:ByteArray) (b7:Bool),b5=(sealedA A (stR A) s14)∧b7=(sealedB s14)∧Real Tryz.prog 122 [.str s14] (.tup [.str b5,.bool b7]):=⟨_,_,rfl,rfl,by exact r_spec_Sealed A hA s14 (by omega)⟩
 refine dops_callV rfl rfl (by cbv) (by cbv) f1 (.inr rfl) ?_
 refine dz hA 4 ?_
 refine rt (gt ?_)
 show _=PV.tup [.str b5,.bool b7]
 have eb:bodyA (vtR A) (⟨a9,b0,a8⟩:GFrame)=s14:=by
  simp only[d7,d8,e0,e4,d5,d3,d1,d0]
  rw[zb]
  rfl
 have E1:ftA A (vtR A) (stR A) (⟨a9,b0,a8⟩:GFrame)=sealedA A (stR A) s14:=by unfold ftA;rw[if_pos E,eb]
 have E2:ftB (vtR A) (⟨a9,b0,a8⟩:GFrame)=sealedB s14:=by unfold ftB;rw[E,eb];rfl
 rw[E1,E2]
 simp only[d1,d0]
theorem r_spec_FrameSize (A:Alg)(hA:A=std)(f:GFrame)(hb:ByteArray.size f.Body≤10485760):Real Tryz.prog 53 [.agg (eFrame f)] (.ii (fsz f)):=by
 obtain⟨a9,b0,a8⟩:=f
 refine real_args (args':=[.agg [.ii a9,.ii b0,.str a8]]) (by rfl) ?_
 refine real tyOk Tryz.func53 (by kernel_rfl) (afun_of rfl ?_)
 refine gx hA 2 ?_
 refine gs (gr (rn hA 1 ?_))
 obtain⟨c7,d2,e5,f3,hc2⟩:∃(c7:ByteArray) (d2:Bool),c7=(ftA A (vtR A) (stR A) (⟨a9,b0,a8⟩:GFrame))∧d2=(ftB (vtR A) (⟨a9,b0,a8⟩:GFrame))∧Real Tryz.prog 85 [.agg [.ii a9,.ii b0,.str a8]] (.tup [.str c7,.bool d2]):=⟨_,_,rfl,rfl,by exact r_spec_FrameText A hA (⟨a9,b0,a8⟩:GFrame) (by assumption)⟩
 refine cvw hc2 (.inr rfl) ?_
 refine rz hA 5 ?_
 refine gx hA 3 ?_
 refine rt (gt ?_)
 show _=(PV.int .i64 (A.slen c7))
 refine congrArg (PV.int .i64) ?_
 rw[slen_eq hA,e5]
 exact(ft_size (vtR_len A) _).symm
theorem r_spec_ItemFrame (A:Alg)(hA:A=std)(x:GItem)(gen:Int)(hz:∀ q∈zsRec x.Rec,q≤1048576):Real Tryz.prog 52 [.agg (eItem x),.ii gen] (.tup [.agg (eFrame (frI A (vtR A) x gen)),.bool (frOk A (vtR A) x gen)]):=by
 obtain⟨b1,⟨a2,a1,a7,a4,a0,a5,a3,a6⟩⟩:=x
 refine real_args (args':=[.agg [.ii b1,.ii a2,.ii a1,.ii a7,.ii a4,.ii a0,.str a5,.str a3,.str a6],.ii gen]) (by rfl) ?_
 have hz:∀ q∈zsRec (⟨a2,a1,a7,a4,a0,a5,a3,a6⟩:GRec),q≤1048576:=hz
 refine real tyOk Tryz.func52 (by kernel_rfl) (afun_of rfl ?_)
 refine gx hA 3 ?_
 refine gs (gr (rn hA 2 ?_))
 obtain⟨b2,b4,b8,c2,hc2⟩:∃(b2:ByteArray) (b4:Bool),b2=(recT A (vtR A) (⟨a2,a1,a7,a4,a0,a5,a3,a6⟩:GRec))∧b4=(recOk (⟨a2,a1,a7,a4,a0,a5,a3,a6⟩:GRec))∧Real Tryz.prog 83 [.agg [.ii a2,.ii a1,.ii a7,.ii a4,.ii a0,.str a5,.str a3,.str a6]] (.tup [.str b2,.bool b4]):=⟨_,_,rfl,rfl,by exact r_spec_RecText A hA (⟨a2,a1,a7,a4,a0,a5,a3,a6⟩:GRec) (by assumption)⟩
 refine cvw hc2 (.inr rfl) ?_
 refine rz hA 5 ?_
 refine gs ?_
 have zb:ByteArray.size b2≤10485760:=by rw[b8];exact recT_size (vtR_len A) hz (ofB1_size hA _)
 refine gy hA 7 ?_
 refine gs (gs (gr (rn hA 3 ?_)))
 refine ops_split 22 rfl (fun c3=> ?_) (fun c3=> ?_)
 ·
  have c4:b4=false:=bnot_t hA c3
  refine rz hA 4 ?_
  refine gc (fun c5=> ?_) (fun c5=> ?_)
  ·
   refine gx hA 3 ?_
   refine rt (gt ?_)
   show _=PV.tup [.agg [.ii 0,.ii 0,.str ByteArray.empty],.bool false]
   have e1:recOk (⟨a2,a1,a7,a4,a0,a5,a3,a6⟩:GRec)=false:=by rw[← c2,c4]
   have E:frOk A (vtR A) (⟨b1,⟨a2,a1,a7,a4,a0,a5,a3,a6⟩⟩:GItem) gen=false:=by
    unfold frOk
    show(recOk (⟨a2,a1,a7,a4,a0,a5,a3,a6⟩:GRec) && _)=_
    rw[e1]
    rfl
   have E3:frI A (vtR A) (⟨b1,⟨a2,a1,a7,a4,a0,a5,a3,a6⟩⟩:GItem) gen=⟨0,0,ByteArray.empty⟩:=by
    unfold frI
    rw[if_neg (by rw[E];decide)]
   rw[E,E3]
   rfl
  exact no_f c5 (show true=true from by rfl)
 have c6:b4=true:=bnot_f hA c3
 refine rn hA 1 ?_
 obtain⟨c8,d6,hc8⟩:∃(c8:Bool),c8=(frameOk (⟨gen,b1,b2⟩:GFrame))∧Real Tryz.prog 84 [.agg [.ii gen,.ii b1,.str b2]] (.bool c8):=⟨_,rfl,by exact r_spec_FrameOk A hA (⟨gen,b1,b2⟩:GFrame) (by assumption)⟩
 refine ops_callG rfl rfl rfl rfl (by cbv) (by cbv) hc8 (.inr rfl) (by cbv) ?_
 refine rz hA 2 ?_
 refine gc (fun c9=> ?_) (fun c9=> ?_)
 ·
  have c10:c8=false:=bnot_t hA c9
  refine gx hA 3 ?_
  refine rt (gt ?_)
  show _=PV.tup [.agg [.ii 0,.ii 0,.str ByteArray.empty],.bool false]
  have e1:recOk (⟨a2,a1,a7,a4,a0,a5,a3,a6⟩:GRec)=true:=by rw[← c2,c6]
  have e2:frameOk (frA A (vtR A) (⟨b1,⟨a2,a1,a7,a4,a0,a5,a3,a6⟩⟩:GItem) gen)=false:=by
   show frameOk (⟨gen,b1,recT A (vtR A) (⟨a2,a1,a7,a4,a0,a5,a3,a6⟩:GRec)⟩:GFrame)=_
   rw[← b8,← d6,c10]
  have E:frOk A (vtR A) (⟨b1,⟨a2,a1,a7,a4,a0,a5,a3,a6⟩⟩:GItem) gen=false:=by
   unfold frOk
   rw[e2]
   show(recOk (⟨a2,a1,a7,a4,a0,a5,a3,a6⟩:GRec) && _)=_
   rw[e1]
   rfl
  have E3:frI A (vtR A) (⟨b1,⟨a2,a1,a7,a4,a0,a5,a3,a6⟩⟩:GItem) gen=⟨0,0,ByteArray.empty⟩:=by
   unfold frI
   rw[if_neg (by rw[E];decide)]
  rw[E,E3]
  rfl
 have c11:c8=true:=bnot_f hA c9
 refine gk (gx hA 3 ?_)
 refine rt (gt ?_)
 show _=PV.tup [.agg [.ii gen,.ii b1,.str b2],.bool true]
 have e1:recOk (⟨a2,a1,a7,a4,a0,a5,a3,a6⟩:GRec)=true:=by rw[← c2,c6]
 have e2:frameOk (frA A (vtR A) (⟨b1,⟨a2,a1,a7,a4,a0,a5,a3,a6⟩⟩:GItem) gen)=true:=by
  show frameOk (⟨gen,b1,recT A (vtR A) (⟨a2,a1,a7,a4,a0,a5,a3,a6⟩:GRec)⟩:GFrame)=_
  rw[← b8,← d6,c11]
 have E:frOk A (vtR A) (⟨b1,⟨a2,a1,a7,a4,a0,a5,a3,a6⟩⟩:GItem) gen=true:=by
  unfold frOk
  rw[e2]
  show(recOk (⟨a2,a1,a7,a4,a0,a5,a3,a6⟩:GRec) && _)=_
  rw[e1]
  rfl
 have E3:frI A (vtR A) (⟨b1,⟨a2,a1,a7,a4,a0,a5,a3,a6⟩⟩:GItem) gen=⟨gen,b1,b2⟩:=by
  unfold frI
  rw[if_pos E,b8]
  rfl
 rw[E,E3]
 rfl
end Go.Av
