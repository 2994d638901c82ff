/- Walks: the law of ShowStore. -/
import Derived.Test.YtjbokkoiicoahaaGreatDoorS1
import Derived.Test.YtjbokkoiicoahaaGreatDoorV1
import Derived.Test.YtjbokkoiicoahaaGreatDoorV2
import Derived.Test.YtjbokkoiicoahaaGreatDoorV3
namespace Go.Av
open Go Go.Proofs
set_option maxRecDepth 100000
set_option maxHeartbeats 4000000
set_option linter.unusedVariables false
set_option linter.unusedSimpArgs false
theorem chain_sum :∀{l:List Nat} {n:Int},0≤chain n l→(l.sum:Int)≤n
 | [],n,h=>by simpa [chain] using h
 | k::l,n,h=>by
  rw[chain_cons] at h
  split at h
  ·omega
  have:=chain_sum h;simp only[List.sum_cons];omega
theorem items_sumS (x:GStore)(h:((zsStore x).sum:Int)≤1048576):(itemsL x.Log.Used).length≤1048576:=by
 have h1:=itemsL_sum x.Log.Used
 have h2:(zsSegS x.Log.Used).sum≤(zsStore x).sum:=by
  simp only[zsStore,zsLog,List.sum_append];omega
 omega
theorem r_laws_FnExactShowStore (A:Alg)(hA:A=std)(aS:GStore)(haS:∀ k∈zsStore aS,(k:Int)≤9223372036854775807):Real Tryz.prog 3 [.agg (eStore aS)] (.bool true):=by
 obtain⟨⟨⟨a1,a4⟩,a6,a7,a2,a3,a5,a0⟩,a8⟩:=aS
 obtain⟨b4,a9⟩:=nm (a1.map eString)
 have f0:=rlen_map hA a9
 obtain⟨b6,b0⟩:=nm (a4.map eWrite)
 have f5:=rlen_map hA b0
 obtain⟨c7,b9⟩:=nm (a7.map eSeg)
 have g2:=rlen_map hA b9
 obtain⟨d6,c8⟩:=nm (a8.map eInt)
 have g7:=rlen_map hA c8
 refine real_args (args':=[.agg [.sl 1 b4,.sl 2 b6,.ii a6,.sl 4 c7,.ii a2,.ii a3,.ii a5,.ii a0,.sl 1 d6]]) (by subst a9 b0 b9 c8;rfl) ?_
 refine real tyOk Tryz.func3 (by kernel_rfl) (afun_of rfl ?_)
 refine gx hA 2 ?_
 refine gx hA 1 ?_
 refine gs (gr (rn hA 2 ?_))
 obtain⟨e2,f4,hc2⟩:∃(e2:Int),e2=(chain 1048576 (zsStore (⟨⟨⟨a1,a4⟩,a6,a7,a2,a3,a5,a0⟩,a8⟩:GStore)))∧Real Tryz.prog 4 [.agg [.sl 1 b4,.sl 2 b6,.ii a6,.sl 4 c7,.ii a2,.ii a3,.ii a5,.ii a0,.sl 1 d6],.ii 1048576] (.ii e2):=⟨_,rfl,by subst a9 b0 b9 c8;exact r_laws_szStore A hA (⟨⟨⟨a1,a4⟩,a6,a7,a2,a3,a5,a0⟩,a8⟩:GStore) 1048576 (by omega) (by omega) haS⟩
 refine cvw hc2 (.inr rfl) ?_
 have i1:=chain_bd f4 (by omega)
 refine rz hA 1 ?_
 refine gs (gx hA 2 ?_)
 refine gc (fun c3=> ?_) (fun c3=> ?_)
 ·
  have ec3:e2 < 0:=lss_t hA c3
  refine gx hA 1 ?_
  refine rt (gt ?_)
  show _=(PV.bool true)
  rfl
 have ec3:0≤e2:=lss_f hA c3
 refine gk (gs ?_)
 have jaS:∀ k∈zsStore (⟨⟨⟨a1,a4⟩,a6,a7,a2,a3,a5,a0⟩,a8⟩:GStore),k≤1048576:=fun k hk=>by
  have:=chain_all _ _ (show 0≤chain _ _ from f4 ▸ (by omega:(0:Int)≤e2)) k hk
  omega
 have saS:((zsStore (⟨⟨⟨a1,a4⟩,a6,a7,a2,a3,a5,a0⟩,a8⟩:GStore)).sum:Int)≤1048576:=by
  have:=chain_sum (show 0≤chain _ _ from f4 ▸ (by omega:(0:Int)≤e2))
  omega
 have iaS:∀ k∈zsStore (⟨⟨⟨a1,a4⟩,a6,a7,a2,a3,a5,a0⟩,a8⟩:GStore),(k:Int)≤4611686018427387904:=fun k hk=>by have:=jaS k hk;omega
 have hil:(itemsL a7).length≤1048576:=items_sumS (⟨⟨⟨a1,a4⟩,a6,a7,a2,a3,a5,a0⟩,a8⟩:GStore) saS
 refine gr (rn hA 1 ?_)
 obtain⟨b7,b8,d0,d7,d1,d4,e0,e1,hc5⟩:∃(b7:RR) (b8:RR) (d0:RR) (d7:RR),b7=List.map eString a1∧b8=List.map eoWrite a4∧d0=List.map eoSeg a7∧d7=List.map eInt a8∧Real Tryz.prog 6 [.agg [.sl 1 b4,.sl 2 b6,.ii a6,.sl 4 c7,.ii a2,.ii a3,.ii a5,.ii a0,.sl 1 d6]] (.agg [.ow 1 b7,.ow 2 b8,.ii a6,.ow 4 d0,.ii a2,.ii a3,.ii a5,.ii a0,.ow 1 d7]):=⟨_,_,_,_,rfl,rfl,rfl,rfl,by subst a9 b0 b9 c8;exact r_laws_toStore A hA (⟨⟨⟨a1,a4⟩,a6,a7,a2,a3,a5,a0⟩,a8⟩:GStore) jaS⟩
 have e9:=rlen_map hA d1
 have f3:=rlen_map hA d4
 have f9:=rlen_map hA e0
 have g5:=rlen_map hA e1
 refine cvw hc5 (.inr rfl) ?_
 obtain⟨e4,g6,hc7⟩:∃(e4:ByteArray),e4=(storeT (⟨⟨⟨a1,a4⟩,a6,a7,a2,a3,a5,a0⟩,a8⟩:GStore))∧Real Tryz.prog 5 [.agg [.sl 1 (eraseR b7),.sl 2 (eraseR b8),.ii a6,.sl 4 (eraseR d0),.ii a2,.ii a3,.ii a5,.ii a0,.sl 1 (eraseR d7)]] (.str e4):=⟨_,rfl,by subst d1 d4 e0 e1;simp only[erR_Int,erR_Seg,erR_String,erR_Write];exact r_spec_ShowStore A hA (⟨⟨⟨a1,a4⟩,a6,a7,a2,a3,a5,a0⟩,a8⟩:GStore) (by assumption) hil⟩
 refine cvw hc7 (.inl trivial) ?_
 refine rz hA 1 ?_
 refine gs (gr (rn hA 1 ?_))
 obtain⟨b2,b5,c6,d2,c1,c5,d5,d9,hc9⟩:∃(b2:RR) (b5:RR) (c6:RR) (d2:RR),b2=List.map eString a1∧b5=List.map eoWrite a4∧c6=List.map eoSeg a7∧d2=List.map eInt a8∧Real Tryz.prog 6 [.agg [.sl 1 b4,.sl 2 b6,.ii a6,.sl 4 c7,.ii a2,.ii a3,.ii a5,.ii a0,.sl 1 d6]] (.agg [.ow 1 b2,.ow 2 b5,.ii a6,.ow 4 c6,.ii a2,.ii a3,.ii a5,.ii a0,.ow 1 d2]):=⟨_,_,_,_,rfl,rfl,rfl,rfl,by subst a9 b0 b9 c8;exact r_laws_toStore A hA (⟨⟨⟨a1,a4⟩,a6,a7,a2,a3,a5,a0⟩,a8⟩:GStore) jaS⟩
 have e7:=rlen_map hA c1
 have f2:=rlen_map hA c5
 have f8:=rlen_map hA d5
 have g4:=rlen_map hA d9
 refine cvw hc9 (.inr rfl) ?_
 refine rz hA 2 ?_
 refine gs (gr (rn hA 1 ?_))
 obtain⟨e3,g1,i0⟩:∃(e3:ByteArray),e3=(storeT (⟨⟨⟨a1,a4⟩,a6,a7,a2,a3,a5,a0⟩,a8⟩:GStore))∧Real Tryz.prog 7 [.agg [.sl 1 (eraseR b2),.sl 2 (eraseR b5),.ii a6,.sl 4 (eraseR c6),.ii a2,.ii a3,.ii a5,.ii a0,.sl 1 (eraseR d2)]] (.str e3):=⟨_,rfl,by subst c1 c5 d5 d9;simp only[erR_Int,erR_Seg,erR_String,erR_Write];exact r_impl_ShowStore A hA (⟨⟨⟨a1,a4⟩,a6,a7,a2,a3,a5,a0⟩,a8⟩:GStore) (by assumption) hil⟩
 refine cvw i0 (.inl trivial) ?_
 refine rz hA 1 ?_
 refine gs (gx hA 3 ?_)
 refine gc (fun c12=> ?_) (fun c12=> ?_)
 ·
  exact no_t c12 (show(A.scmp .neq e3 e4)=false from by subst hA;simp[std,g1,g6])
 refine gk (gs (gs ?_))
 refine go_draw [0,1,2,3,4] (by cbv) ?_
 refine dn_ hA 2 ?_
 obtain⟨b1,b3,c2,c9,c0,c4,d3,d8,g8⟩:∃(b1:RR) (b3:RR) (c2:RR) (c9:RR),b1=List.map eString a1∧b3=List.map eoWrite a4∧c2=List.map eoSeg a7∧c9=List.map eInt a8∧Real Tryz.prog 6 [.agg [.sl 1 b4,.sl 2 b6,.ii a6,.sl 4 c7,.ii a2,.ii a3,.ii a5,.ii a0,.sl 1 d6]] (.agg [.ow 1 b1,.ow 2 b3,.ii a6,.ow 4 c2,.ii a2,.ii a3,.ii a5,.ii a0,.ow 1 c9]):=⟨_,_,_,_,rfl,rfl,rfl,rfl,by subst a9 b0 b9 c8;exact r_laws_toStore A hA (⟨⟨⟨a1,a4⟩,a6,a7,a2,a3,a5,a0⟩,a8⟩:GStore) jaS⟩
 have e6:=rlen_map hA c0
 have f1:=rlen_map hA c4
 have f7:=rlen_map hA d3
 have g3:=rlen_map hA d8
 have e5:A.rlen (eraseR b1)=(List.length a1:Int):=rlen_map hA (by rw[c0];exact erR_String _)
 have e8:A.rlen (eraseR b3)=(List.length a4:Int):=rlen_map hA (by rw[c4];exact erR_Write _)
 have f6:A.rlen (eraseR c2)=(List.length a7:Int):=rlen_map hA (by rw[d3];exact erR_Seg _)
 have g0:A.rlen (eraseR c9)=(List.length a8:Int):=rlen_map hA (by rw[d8];exact erR_Int _)
 refine dops_callV rfl rfl (by cbv) (by cbv) g8 (.inr rfl) ?_
 have g9:Real Tryz.prog 8 [.agg [.sl 1 (eraseR b2),.sl 2 (eraseR b5),.ii a6,.sl 4 (eraseR c6),.ii a2,.ii a3,.ii a5,.ii a0,.sl 1 (eraseR d2)],.agg [.sl 1 (eraseR b1),.sl 2 (eraseR b3),.ii a6,.sl 4 (eraseR c2),.ii a2,.ii a3,.ii a5,.ii a0,.sl 1 (eraseR c9)]] (.bool true):=by subst c1 c5 d5 d9 c0 c4 d3 d8;simp only[erR_Int,erR_Seg,erR_String,erR_Write];exact r_laws_eqStore A hA (⟨⟨⟨a1,a4⟩,a6,a7,a2,a3,a5,a0⟩,a8⟩:GStore) iaS
 refine dops_callV rfl rfl (by cbv) (by cbv) g9 (.inl trivial) ?_
 refine dz hA 1 ?_
 refine gc (fun c17=> ?_) (fun c17=> ?_)
 ·
  exact no_t c17 (show(A.bnot true)=false from by subst hA;rfl)
 refine gk (gx hA 1 ?_)
 refine rt (gt ?_)
 show _=(PV.bool true)
 rfl
end Go.Av
