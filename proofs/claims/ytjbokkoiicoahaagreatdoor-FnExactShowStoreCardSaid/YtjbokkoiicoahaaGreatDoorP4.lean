/- Walks: what lives. -/
import Derived.Test.YtjbokkoiicoahaaGreatDoorP3
namespace Go.Av
open Go Go.Proofs
set_option maxRecDepth 100000
set_option maxHeartbeats 4000000
set_option linter.unusedVariables false
set_option linter.unusedSimpArgs false
def S38_1 (p0:Int)(p1:Int)(p2:Int)(p3:Int)(p4:Int)(p5:Int)(p6:RR)(p7:RR):St:={sl:=[.bad,.bad,.bad,.bad,.bad,.pt 5 0 0,.ii p0,.bad,.bad,.bad,.bad,.bad,.bad,.bad,.bad,.bad,.bad,.bad,.bad,.bad,.bad,.bad,.bad,.own 23,.ii p1,.ii p2,.bad,.bad,.bad,.bad,.bad,.bad,.bad,.bad,.bad,.bad,.bad,.bad,.bad,.bad,.bad,.bad,.bad,.bad,.bad,.bad],bl:=[(5,⟨.var,4,[[.ii p3,.ii p4,.ii p5,.sl 9 p6]]⟩),(23,⟨.arr,1,p7⟩)]}
theorem r_impl_LiveOf (A:Alg)(hA:A=std)(x:GStore)(i:Int)(hz:∀ q∈zsStore x,q≤1048576)(hil:(itemsL x.Log.Used).length≤1048576)(h0:0≤i)(h1:i < (List.length x.Log.Used:Int)):Real Tryz.prog 38 [.agg (eStore x),.ii i] (.ii (segL x.Freed x.Log.Used (Int.toNat i))):=by
 obtain⟨⟨⟨a3,a8⟩,c8,a0,b7,b8,c7,b4⟩,a1⟩:=x
 obtain⟨b6,c0⟩:=nm (a3.map eString)
 have g0:=rlen_map hA c0
 obtain⟨c2,c6⟩:=nm (a8.map eWrite)
 have g3:=rlen_map hA c6
 obtain⟨b9,d4⟩:=nm (a0.map eSeg)
 have i2:=rlen_map hA d4
 obtain⟨f0,e9⟩:=nm (a1.map eInt)
 have i6:=rlen_map hA e9
 refine real_args (args':=[.agg [.sl 1 b6,.sl 2 c2,.ii c8,.sl 4 b9,.ii b7,.ii b8,.ii c7,.ii b4,.sl 1 f0],.ii i]) (by subst c0 c6 d4 e9;rfl) ?_
 have g4:∀ q∈zsLog (⟨⟨a3,a8⟩,c8,a0,b7,b8,c7,b4⟩:GLog),q≤1048576:=fun q hq=>hz q (by simp only[zsStore,List.mem_append];simp only[hq,true_or,or_true])
 have f3:∀ q∈zsDisk (⟨a3,a8⟩:GDisk),q≤1048576:=fun q hq=>g4 q (by simp only[zsLog,List.mem_append];simp only[hq,true_or,or_true])
 have f1:∀ q∈zsStringS a3,q≤1048576:=fun q hq=>f3 q (by simp only[zsDisk,List.mem_append];simp only[hq,true_or,or_true])
 have g2:List.length a3≤1048576:=f1 _ (by simp[zsStringS])
 have f2:∀ q∈zsWriteS a8,q≤1048576:=fun q hq=>f3 q (by simp only[zsDisk,List.mem_append];simp only[hq,true_or,or_true])
 have g7:List.length a8≤1048576:=f2 _ (by simp[zsWriteS])
 have f4:∀ q∈zsSegS a0,q≤1048576:=fun q hq=>g4 q (by simp only[zsLog,List.mem_append];simp only[hq,true_or,or_true])
 have i5:List.length a0≤1048576:=f4 _ (by simp[zsSegS])
 have g8:∀ q∈zsIntS a1,q≤1048576:=fun q hq=>hz q (by simp only[zsStore,List.mem_append];simp only[hq,true_or,or_true])
 have j1:List.length a1≤1048576:=g8 _ (by simp[zsIntS])
 have hil:(itemsL a0).length≤1048576:=hil
 have hzs:=zs_itemsL f4 hil
 have hzk:∀ q∈zsItemS (keptL a1 a0),q≤1048576:=zs_kept hzs
 have hki:=keptL_items a1 a0
 have h1:i < (List.length a0:Int):=h1
 have hfz:List.length a1≤1048576:=by first | assumption | omega
 have hlz:List.length a0≤1048576:=by first | assumption | omega
 refine real tyOk Tryz.func38 (by kernel_rfl) (afun_of rfl ?_)
 refine gx hA 2 ?_
 refine gs (gs (gr (rn hA 2 ?_)))
 obtain⟨g9,i8,hc2⟩:∃(g9:Bool),g9=(segAtB a1 a0 i)∧Real Tryz.prog 65 [.agg [.sl 1 b6,.sl 2 c2,.ii c8,.sl 4 b9,.ii b7,.ii b8,.ii c7,.ii b4,.sl 1 f0],.ii i] (.bool g9):=⟨_,rfl,by subst c0 c6 d4 e9;exact r_impl_segAt A hA (⟨⟨⟨a3,a8⟩,c8,a0,b7,b8,c7,b4⟩,a1⟩:GStore) i (by assumption) (by assumption)⟩
 refine cvw hc2 (.inr rfl) ?_
 refine rz hA 1 ?_
 refine gc (fun c3=> ?_) (fun c3=> ?_)
 ·
  have c4:g9=false:=bnot_t hA c3
  refine gx hA 1 ?_
  refine rt (gt ?_)
  refine congrArg (PV.int .i64) ?_
  have hl:Int.toNat i < List.length a0:=by omega
  have hu:=List.getElem?_eq_getElem hl
  have hS:segAtB a1 a0 i=false:=by rw[← i8,c4]
  rw[segAt_some h0 hu,Bool.not_eq_false'] at hS
  show segL a1 a0 (Int.toNat i)=_
  rw[segL_some hu,segV,if_pos hS]
 have c5:g9=true:=bnot_f hA c3
 refine gk (gs ?_)
 have hfr:∀ y,a0[Int.toNat i]? =some y→frB a1 y.No=false:=fun y hy=>by
  have hS:segAtB a1 a0 i=true:=by rw[← i8,c5]
  rw[segAt_some h0 hy] at hS
  simpa using hS
 refine gr (rn hA 4 ?_)
 have l1:(0:Int)≤i:=by
  omega
 have l4:(Int.toNat i) < List.length a0:=by
  omega
 obtain⟨x6,hx6⟩:∃ x,(a0)[(Int.toNat i)]? =some x:=⟨_,List.getElem?_eq_getElem l4⟩
 have l6:=List.mem_of_getElem? hx6
 obtain⟨f7,d1,f6,e6⟩:=x6
 obtain⟨d2,f9⟩:=nm (e6.map eItem)
 have k2:=rlen_map hA f9
 have l5:b9[(Int.toNat i)]? =some [.ii f7,.ii d1,.ii f6,.sl 9 d2]:=by
  subst f9;exact map_at eSeg d4 hx6
 have j5:=hx6
 have hzi:∀ y∈e6,∀ q∈zsRec y.Rec,q≤1048576:=fun y hy q hq=>hzs q (List.mem_cons_of_mem _ (List.mem_flatMap.2 ⟨y,List.mem_flatMap.2 ⟨_,l6,hy⟩,by simp only[zsItem,List.mem_append];exact .inl hq⟩))
 have hli:List.length e6≤1048576:=by
  have h2:=itemsL_le a0 (Int.toNat i+1)
  rw[itemsL_at hx6,List.length_append] at h2
  have h2:(itemsL (a0.take (Int.toNat i))).length+List.length e6≤(itemsL a0).length:=h2
  omega
 have hpl:plcA a1 a0 (Int.toNat i)=plc (NL a1 a0) (keptL a1 (a0.take (Int.toNat i))).length (List.length e6):=plcA_some hx6
 have hpn:=plc_len (NL a1 a0) (keptL a1 (a0.take (Int.toNat i))).length (List.length e6)
 refine ops_step rfl rfl (idx_sl rfl rfl rfl rfl rfl l1 rfl l5) ?_
 refine rz hA 3 ?_
 refine gx hA 1 ?_
 refine gs (gs (gr (rn hA 2 ?_)))
 obtain⟨d5,i4,hc8⟩:∃(d5:RR),d5=List.map eInt (plcA a1 a0 (Int.toNat i))∧Real Tryz.prog 66 [.agg [.sl 1 b6,.sl 2 c2,.ii c8,.sl 4 b9,.ii b7,.ii b8,.ii c7,.ii b4,.sl 1 f0],.ii i] (.ow 1 d5):=⟨_,rfl,by subst c0 c6 d4 e9;exact r_impl_liveOf A hA (⟨⟨⟨a3,a8⟩,c8,a0,b7,b8,c7,b4⟩,a1⟩:GStore) i (by assumption) hil (by omega) (by omega) hfr⟩
 have l7:=rlen_map hA i4
 refine cvw hc8 (.inr rfl) ?_
 refine rz hA 2 ?_
 refine go_block ?_
 refine go_loopE (fun σ m=>∃(k:Nat) (n:Int) (sm:Int),σ=(S38_1 sm (A.rlen d5) n f7 d1 f6 d2 d5)∧(n=(k:Int)∧k≤List.length (plcA a1 a0 (Int.toNat i))∧sm=sumP d1 e6 (List.take k (plcA a1 a0 (Int.toNat i))))∧m=List.length (plcA a1 a0 (Int.toNat i)) - k) _ [.up 23,.up 5,.up 2] [5,6,23,24,25] [5,23] (S38_1 0 (A.rlen d5) 0 f7 d1 f6 d2 d5) rfl (by cbv) ⟨0,0,0,rfl,?_,rfl⟩ (fun σ m hI=> ?_)
 ·
  exact⟨rfl,Nat.zero_le _,rfl⟩
 obtain⟨k,n,sm,rfl,⟨hn,hk,hs⟩,rfl⟩:=hI
 have hlp:List.length (plcA a1 a0 (Int.toNat i))≤List.length e6:=by rw[hpl];exact hpn
 refine gx hA 1 ?_
 refine gs ?_
 refine gc (fun c9=> ?_) (fun c9=> ?_)
 ·
  have ec9:n < (A.rlen d5):=lss_t hA c9
  refine gk (gs ?_)
  refine go_block ?_
  refine gs (gr ?_)
  have k4:(0:Int)≤n:=by
   omega
  have k7:(Int.toNat n) < List.length (plcA a1 a0 (Int.toNat i)):=by
   omega
  obtain⟨x10,i9⟩:∃ x,(plcA a1 a0 (Int.toNat i))[(Int.toNat n)]? =some x:=⟨_,List.getElem?_eq_getElem k7⟩
  have k6:=List.mem_of_getElem? i9
  have k8:d5[(Int.toNat n)]? =some [.ii x10]:=by
   exact map_at eInt i4 i9
  have i3:=i9
  rw[hn] at i3
  have i3:(plcA a1 a0 (Int.toNat i))[k]? =some x10:=i3
  have l8:0≤x10∧x10 < (List.length e6:Int):=plc_mem (by rw[← hpl];exact k6)
  have k1:n < (List.length d5:Int):=by
   rw[i4,List.length_map];omega
  refine ops_step rfl rfl (idx_own rfl rfl rfl rfl rfl rfl k4 k1 rfl) ?_
  refine ops_step rfl rfl (ld_arr rfl rfl rfl rfl k8 rfl) ?_
  refine rz hA 1 ?_
  refine gs ?_
  have j3:(0:Int)≤x10:=by
   omega
  have k9:(Int.toNat x10) < List.length e6:=by
   omega
  obtain⟨x12,j2⟩:∃ x,(e6)[(Int.toNat x10)]? =some x:=⟨_,List.getElem?_eq_getElem k9⟩
  have k3:=List.mem_of_getElem? j2
  obtain⟨d3,⟨b3,a6,b5,b0,a7,a9,b2,b1⟩⟩:=x12
  have j4:d2[(Int.toNat x10)]? =some [.ii d3,.ii b3,.ii a6,.ii b5,.ii b0,.ii a7,.str a9,.str b2,.str b1]:=by
   exact map_at eItem f9 j2
  have k5:=j2
  have hzq:∀ q∈zsRec (GItem.Rec (⟨d3,⟨b3,a6,b5,b0,a7,a9,b2,b1⟩⟩:GItem)),q≤1048576:=hzi _ k3
  obtain⟨a5,a4,a2,d0,i1,i0,g1,l0,j9⟩:∃(a5:Int) (a4:Int) (a2:ByteArray) (d0:Bool),a5=((frI A (vtI A) (⟨d3,⟨b3,a6,b5,b0,a7,a9,b2,b1⟩⟩:GItem) d1).Gen)∧a4=((frI A (vtI A) (⟨d3,⟨b3,a6,b5,b0,a7,a9,b2,b1⟩⟩:GItem) d1).Seq)∧a2=((frI A (vtI A) (⟨d3,⟨b3,a6,b5,b0,a7,a9,b2,b1⟩⟩:GItem) d1).Body)∧d0=(frOk A (vtI A) (⟨d3,⟨b3,a6,b5,b0,a7,a9,b2,b1⟩⟩:GItem) d1)∧Real Tryz.prog 67 [.agg [.ii d3,.ii b3,.ii a6,.ii b5,.ii b0,.ii a7,.str a9,.str b2,.str b1],.ii d1] (.tup [.agg [.ii a5,.ii a4,.str a2],.bool d0]):=⟨_,_,_,_,rfl,rfl,rfl,rfl,by exact r_impl_ItemFrame A hA (⟨d3,⟨b3,a6,b5,b0,a7,a9,b2,b1⟩⟩:GItem) d1 (by assumption)⟩
  refine go_drawE [0,1,2,3,4,5,6,7,8,9,12,10,11,13] (by cbv) rfl rfl ({sl:=[.bad,.bad,.bad,.bad,.bad,.pt 5 0 0,.ii sm,.bad,.ii x10,.pt 9 0 0,.bool d0,.bad,.bad,.bad,.bad,.bad,.bad,.bad,.bad,.bad,.bad,.bad,.bad,.own 23,.ii (A.rlen d5),.ii n,.bool (A.cmp .lss n (A.rlen d5)),.pt 23 (Int.toNat n) 0,.ii x10,.tup [.agg [.ii a5,.ii a4,.str a2],.bool d0],.pt 5 0 3,.sl 9 d2,.ii x10,.rd [.ii d3,.ii b3,.ii a6,.ii b5,.ii b0,.ii a7,.str a9,.str b2,.str b1],.agg [.ii d3,.ii b3,.ii a6,.ii b5,.ii b0,.ii a7,.str a9,.str b2,.str b1],.pt 5 0 1,.ii d1,.tup [.agg [.ii a5,.ii a4,.str a2],.bool d0],.agg [.ii a5,.ii a4,.str a2],.bool d0,.bad,.bad,.bad,.bad,.bad,.bad],bl:=[(5,⟨.var,4,[[.ii f7,.ii d1,.ii f6,.sl 9 d2]]⟩),(9,⟨.var,3,[[.ii a5,.ii a4,.str a2]]⟩),(23,⟨.arr,1,d5⟩)]}:St) (fun dR dK dhR dhF=> ?_) ?_
  ·
   have j7:∀(dn:Nat) {e8 g5:Bool} {f5 i7:PV},(e8=true→f5=.bool d0)→(g5=true→i7=.bool d0)→(g5=true→e8=true)→cntF [true,true,true,true,true,true,true,true,true,true,e8,true,true,g5]=dn→dwp T ⟨Real Tryz.prog,RealM Tryz.prog,RealC Tryz.prog⟩ dR dK dn [true,true,true,true,true,true,true,true,true,true,e8,true,true,g5] ({sl:=[.bad,.bad,.bad,.bad,.bad,.pt 5 0 0,.ii sm,.bad,.ii x10,.pt 9 0 0,i7,.bad,.bad,.bad,.bad,.bad,.bad,.bad,.bad,.bad,.bad,.bad,.bad,.own 23,.ii (A.rlen d5),.ii n,.bool (A.cmp .lss n (A.rlen d5)),.pt 23 (Int.toNat n) 0,.ii x10,.tup [.agg [.ii a5,.ii a4,.str a2],.bool d0],.pt 5 0 3,.sl 9 d2,.ii x10,.rd [.ii d3,.ii b3,.ii a6,.ii b5,.ii b0,.ii a7,.str a9,.str b2,.str b1],.agg [.ii d3,.ii b3,.ii a6,.ii b5,.ii b0,.ii a7,.str a9,.str b2,.str b1],.pt 5 0 1,.ii d1,.tup [.agg [.ii a5,.ii a4,.str a2],.bool d0],.agg [.ii a5,.ii a4,.str a2],f5,.bad,.bad,.bad,.bad,.bad,.bad],bl:=[(5,⟨.var,4,[[.ii f7,.ii d1,.ii f6,.sl 9 d2]]⟩),(9,⟨.var,3,[[.ii a5,.ii a4,.str a2]]⟩),(23,⟨.arr,1,d5⟩)]}:St):=by
    intro dn
    induction dn with
    | zero=>
     intro e8 g5 f5 i7 e0 j0 j6 dhn
     have y10:e8=true:=cntF_zero _ dhn 10 (by show 10 < 14;decide)
     subst y10
     have y10:=e0 rfl
     subst y10
     have y13:g5=true:=cntF_zero _ dhn 13 (by show 13 < 14;decide)
     subst y13
     have y13:=j0 rfl
     subst y13
     exact dwp_last dhF
    | succ dn ih=>
     intro e8 g5 f5 i7 e0 j0 j6 dhn
     subst dhR
     refine dwp_next (is:=[0,1,2,3,4,5,6,7,8,9,10,11,12,13]) rfl ?_
     refine an ?_
     refine an ?_
     refine an ?_
     refine an ?_
     refine an ?_
     refine an ?_
     refine an ?_
     refine an ?_
     refine an ?_
     refine an ?_
     refine aq (fun h0 h1=> ?_) ?_
     ·
      cases (show e8=false from h0)
      refine rn hA 1 ?_
      refine ow_ ?_
      exact ih rf j0 rf (cd h0 dhn)
     refine an ?_
     refine an ?_
     refine aq (fun h0 h1=> ?_) ?_
     ·
      cases (show g5=false from h0)
      obtain rfl:e8=true:=h1.1
      cases e0 rfl
      refine rn hA 1 ?_
      refine ow_ ?_
      exact ih rf rf rf (cd h0 dhn)
     exact trivial
   have l3:∀(dn:Nat) {dB0 dB1 dB2 dB3 dB4 dB5 dB6 dB7 dB8 dB9 e8:Bool} {dQ0 dQ1 dQ2 dQ3 dQ4 dQ5 dQ6 dQ7 dQ8 dQ9 f5:PV},(dB0=true→dQ0=.pt 5 0 3)→(dB1=true→dQ1=.sl 9 d2)→(dB2=true→dQ2=.ii x10)→(dB3=true→dQ3=.rd [.ii d3,.ii b3,.ii a6,.ii b5,.ii b0,.ii a7,.str a9,.str b2,.str b1])→(dB4=true→dQ4=.agg [.ii d3,.ii b3,.ii a6,.ii b5,.ii b0,.ii a7,.str a9,.str b2,.str b1])→(dB5=true→dQ5=.pt 5 0 1)→(dB6=true→dQ6=.ii d1)→(dB7=true→dQ7=.tup [.agg [.ii a5,.ii a4,.str a2],.bool d0])→(dB8=true→dQ8=.tup [.agg [.ii a5,.ii a4,.str a2],.bool d0])→(dB9=true→dQ9=.agg [.ii a5,.ii a4,.str a2])→(e8=true→f5=.bool d0)→(dB1=true→dB0=true)→(dB3=true→dB1=true)→(dB3=true→dB2=true)→(dB4=true→dB3=true)→(dB6=true→dB5=true)→(dB7=true→dB4=true)→(dB7=true→dB6=true)→(dB8=true→dB7=true)→(dB9=true→dB8=true)→(e8=true→dB8=true)→cntF [dB0,dB1,dB2,dB3,dB4,dB5,dB6,dB7,dB8,dB9,e8,true,false,false]=dn→dwp T ⟨Real Tryz.prog,RealM Tryz.prog,RealC Tryz.prog⟩ dR dK dn [dB0,dB1,dB2,dB3,dB4,dB5,dB6,dB7,dB8,dB9,e8,true,false,false] ({sl:=[.bad,.bad,.bad,.bad,.bad,.pt 5 0 0,.ii sm,.bad,.ii x10,.pt 9 0 0,.bad,.bad,.bad,.bad,.bad,.bad,.bad,.bad,.bad,.bad,.bad,.bad,.bad,.own 23,.ii (A.rlen d5),.ii n,.bool (A.cmp .lss n (A.rlen d5)),.pt 23 (Int.toNat n) 0,.ii x10,dQ8,dQ0,dQ1,dQ2,dQ3,dQ4,dQ5,dQ6,dQ7,dQ9,f5,.bad,.bad,.bad,.bad,.bad,.bad],bl:=[(5,⟨.var,4,[[.ii f7,.ii d1,.ii f6,.sl 9 d2]]⟩),(9,⟨.var,3,[[.ii 0,.ii 0,.str ByteArray.empty]]⟩),(23,⟨.arr,1,d5⟩)]}:St):=by
    intro dn
    induction dn with
    | zero=>
     intro dB0 dB1 dB2 dB3 dB4 dB5 dB6 dB7 dB8 dB9 e8 dQ0 dQ1 dQ2 dQ3 dQ4 dQ5 dQ6 dQ7 dQ8 dQ9 f5 dh0 dh1 dh2 dh3 dh4 dh5 dh6 dh7 dh8 dh9 e0 d9 e5 e4 d7 e2 d8 e1 e3 e7 d6 dhn
     exact absurd (show false=true from cntF_zero _ dhn 12 (by show 12 < 14;decide)) (by decide)
    | succ dn ih=>
     intro dB0 dB1 dB2 dB3 dB4 dB5 dB6 dB7 dB8 dB9 e8 dQ0 dQ1 dQ2 dQ3 dQ4 dQ5 dQ6 dQ7 dQ8 dQ9 f5 dh0 dh1 dh2 dh3 dh4 dh5 dh6 dh7 dh8 dh9 e0 d9 e5 e4 d7 e2 d8 e1 e3 e7 d6 dhn
     subst dhR
     refine dwp_next (is:=[0,1,2,3,4,5,6,7,8,9,10,11,12,13]) rfl ?_
     refine aq (fun h0 h1=> ?_) ?_
     ·
      cases (show dB0=false from h0)
      refine rn hA 1 ?_
      refine ow_ ?_
      exact ih rf dh1 dh2 dh3 dh4 dh5 dh6 dh7 dh8 dh9 e0 rf e5 e4 d7 e2 d8 e1 e3 e7 d6 (cd h0 dhn)
     refine aq (fun h0 h1=> ?_) ?_
     ·
      cases (show dB1=false from h0)
      obtain rfl:dB0=true:=h1.1
      cases dh0 rfl
      refine rn hA 1 ?_
      refine ow_ ?_
      exact ih rf rf dh2 dh3 dh4 dh5 dh6 dh7 dh8 dh9 e0 rf rf e4 d7 e2 d8 e1 e3 e7 d6 (cd h0 dhn)
     refine aq (fun h0 h1=> ?_) ?_
     ·
      cases (show dB2=false from h0)
      refine rn hA 1 ?_
      refine ow_ ?_
      exact ih dh0 dh1 rf dh3 dh4 dh5 dh6 dh7 dh8 dh9 e0 d9 e5 rf d7 e2 d8 e1 e3 e7 d6 (cd h0 dhn)
     refine aq (fun h0 h1=> ?_) ?_
     ·
      cases (show dB3=false from h0)
      obtain rfl:dB1=true:=h1.1
      cases dh1 rfl;cases d9 rfl;cases dh0 rfl
      obtain rfl:dB2=true:=h1.2.1
      cases dh2 rfl
      refine ops_step rfl rfl (idx_sl rfl rfl rfl rfl rfl j3 rfl j4) ?_
      refine ow_ ?_
      exact ih rf rf rf rf dh4 dh5 dh6 dh7 dh8 dh9 e0 rf rf rf rf e2 d8 e1 e3 e7 d6 (cd h0 dhn)
     refine aq (fun h0 h1=> ?_) ?_
     ·
      cases (show dB4=false from h0)
      obtain rfl:dB3=true:=h1.1
      cases dh3 rfl;cases e5 rfl;cases dh1 rfl;cases d9 rfl;cases dh0 rfl;cases e4 rfl;cases dh2 rfl
      refine rn hA 1 ?_
      refine ow_ ?_
      exact ih rf rf rf rf rf dh5 dh6 dh7 dh8 dh9 e0 rf rf rf rf e2 rf e1 e3 e7 d6 (cd h0 dhn)
     refine aq (fun h0 h1=> ?_) ?_
     ·
      cases (show dB5=false from h0)
      refine rn hA 1 ?_
      refine ow_ ?_
      exact ih dh0 dh1 dh2 dh3 dh4 rf dh6 dh7 dh8 dh9 e0 d9 e5 e4 d7 rf d8 e1 e3 e7 d6 (cd h0 dhn)
     refine aq (fun h0 h1=> ?_) ?_
     ·
      cases (show dB6=false from h0)
      obtain rfl:dB5=true:=h1.1
      cases dh5 rfl
      refine rn hA 1 ?_
      refine ow_ ?_
      exact ih dh0 dh1 dh2 dh3 dh4 rf rf dh7 dh8 dh9 e0 d9 e5 e4 d7 rf d8 rf e3 e7 d6 (cd h0 dhn)
     refine aq (fun h0 h1=> ?_) ?_
     ·
      cases (show dB7=false from h0)
      obtain rfl:dB4=true:=h1.1
      cases dh4 rfl;cases d7 rfl;cases dh3 rfl;cases e5 rfl;cases dh1 rfl;cases d9 rfl;cases dh0 rfl;cases e4 rfl;cases dh2 rfl
      obtain rfl:dB6=true:=h1.2.1
      cases dh6 rfl;cases e2 rfl;cases dh5 rfl
      refine cvw j9 (.inr rfl) ?_
      refine ow_ ?_
      exact ih rf rf rf rf rf rf rf rf dh8 dh9 e0 rf rf rf rf rf rf rf rf e7 d6 (cd h0 dhn)
     refine aq (fun h0 h1=> ?_) ?_
     ·
      cases (show dB8=false from h0)
      obtain rfl:dB7=true:=h1.1
      cases dh7 rfl;cases d8 rfl;cases dh4 rfl;cases d7 rfl;cases dh3 rfl;cases e5 rfl;cases dh1 rfl;cases d9 rfl;cases dh0 rfl;cases e4 rfl;cases dh2 rfl;cases e1 rfl;cases dh6 rfl;cases e2 rfl;cases dh5 rfl
      refine rn hA 1 ?_
      refine ow_ ?_
      exact ih rf rf rf rf rf rf rf rf rf dh9 e0 rf rf rf rf rf rf rf rf rf rf (cd h0 dhn)
     refine aq (fun h0 h1=> ?_) ?_
     ·
      cases (show dB9=false from h0)
      obtain rfl:dB8=true:=h1.1
      cases dh8 rfl;cases e3 rfl;cases dh7 rfl;cases d8 rfl;cases dh4 rfl;cases d7 rfl;cases dh3 rfl;cases e5 rfl;cases dh1 rfl;cases d9 rfl;cases dh0 rfl;cases e4 rfl;cases dh2 rfl;cases e1 rfl;cases dh6 rfl;cases e2 rfl;cases dh5 rfl
      refine rn hA 1 ?_
      refine ow_ ?_
      exact ih rf rf rf rf rf rf rf rf rf rf e0 rf rf rf rf rf rf rf rf rf rf (cd h0 dhn)
     refine aq (fun h0 h1=> ?_) ?_
     ·
      cases (show e8=false from h0)
      obtain rfl:dB8=true:=h1.1
      cases dh8 rfl;cases e3 rfl;cases dh7 rfl;cases d8 rfl;cases dh4 rfl;cases d7 rfl;cases dh3 rfl;cases e5 rfl;cases dh1 rfl;cases d9 rfl;cases dh0 rfl;cases e4 rfl;cases dh2 rfl;cases e1 rfl;cases dh6 rfl;cases e2 rfl;cases dh5 rfl
      refine rn hA 1 ?_
      refine ow_ ?_
      exact ih rf rf rf rf rf rf rf rf rf dh9 rf rf rf rf rf rf rf rf rf rf rf (cd h0 dhn)
     refine an ?_
     refine aq (fun h0 h1=> ?_) ?_
     ·
      obtain rfl:dB9=true:=h1.2.1
      cases dh9 rfl;cases e7 rfl;cases dh8 rfl;cases e3 rfl;cases dh7 rfl;cases d8 rfl;cases dh4 rfl;cases d7 rfl;cases dh3 rfl;cases e5 rfl;cases dh1 rfl;cases d9 rfl;cases dh0 rfl;cases e4 rfl;cases dh2 rfl;cases e1 rfl;cases dh6 rfl;cases e2 rfl;cases dh5 rfl
      refine rn hA 1 ?_
      refine ow_ ?_
      exact j7 dn e0 nf nf (cd h0 dhn)
     refine allRdy_q rfl rfl (fun _ h1=>absurd (show false=true from h1.2.1) (by decide)) ?_
     exact trivial
   have H_:∀(dn:Nat) {dB0 dB1 dB2 dB3 dB4 dB5 dB6 dB7 dB8 dB9 e8:Bool} {dQ0 dQ1 dQ2 dQ3 dQ4 dQ5 dQ6 dQ7 dQ8 dQ9 f5:PV},(dB0=true→dQ0=.pt 5 0 3)→(dB1=true→dQ1=.sl 9 d2)→(dB2=true→dQ2=.ii x10)→(dB3=true→dQ3=.rd [.ii d3,.ii b3,.ii a6,.ii b5,.ii b0,.ii a7,.str a9,.str b2,.str b1])→(dB4=true→dQ4=.agg [.ii d3,.ii b3,.ii a6,.ii b5,.ii b0,.ii a7,.str a9,.str b2,.str b1])→(dB5=true→dQ5=.pt 5 0 1)→(dB6=true→dQ6=.ii d1)→(dB7=true→dQ7=.tup [.agg [.ii a5,.ii a4,.str a2],.bool d0])→(dB8=true→dQ8=.tup [.agg [.ii a5,.ii a4,.str a2],.bool d0])→(dB9=true→dQ9=.agg [.ii a5,.ii a4,.str a2])→(e8=true→f5=.bool d0)→(dB1=true→dB0=true)→(dB3=true→dB1=true)→(dB3=true→dB2=true)→(dB4=true→dB3=true)→(dB6=true→dB5=true)→(dB7=true→dB4=true)→(dB7=true→dB6=true)→(dB8=true→dB7=true)→(dB9=true→dB8=true)→(e8=true→dB8=true)→cntF [dB0,dB1,dB2,dB3,dB4,dB5,dB6,dB7,dB8,dB9,e8,false,false,false]=dn→dwp T ⟨Real Tryz.prog,RealM Tryz.prog,RealC Tryz.prog⟩ dR dK dn [dB0,dB1,dB2,dB3,dB4,dB5,dB6,dB7,dB8,dB9,e8,false,false,false] ({sl:=[.bad,.bad,.bad,.bad,.bad,.pt 5 0 0,.ii sm,.bad,.ii x10,.bad,.bad,.bad,.bad,.bad,.bad,.bad,.bad,.bad,.bad,.bad,.bad,.bad,.bad,.own 23,.ii (A.rlen d5),.ii n,.bool (A.cmp .lss n (A.rlen d5)),.pt 23 (Int.toNat n) 0,.ii x10,dQ8,dQ0,dQ1,dQ2,dQ3,dQ4,dQ5,dQ6,dQ7,dQ9,f5,.bad,.bad,.bad,.bad,.bad,.bad],bl:=[(5,⟨.var,4,[[.ii f7,.ii d1,.ii f6,.sl 9 d2]]⟩),(23,⟨.arr,1,d5⟩)]}:St):=by
    intro dn
    induction dn with
    | zero=>
     intro dB0 dB1 dB2 dB3 dB4 dB5 dB6 dB7 dB8 dB9 e8 dQ0 dQ1 dQ2 dQ3 dQ4 dQ5 dQ6 dQ7 dQ8 dQ9 f5 dh0 dh1 dh2 dh3 dh4 dh5 dh6 dh7 dh8 dh9 e0 d9 e5 e4 d7 e2 d8 e1 e3 e7 d6 dhn
     exact absurd (show false=true from cntF_zero _ dhn 11 (by show 11 < 14;decide)) (by decide)
    | succ dn ih=>
     intro dB0 dB1 dB2 dB3 dB4 dB5 dB6 dB7 dB8 dB9 e8 dQ0 dQ1 dQ2 dQ3 dQ4 dQ5 dQ6 dQ7 dQ8 dQ9 f5 dh0 dh1 dh2 dh3 dh4 dh5 dh6 dh7 dh8 dh9 e0 d9 e5 e4 d7 e2 d8 e1 e3 e7 d6 dhn
     subst dhR
     refine dwp_next (is:=[0,1,2,3,4,5,6,7,8,9,10,11,12,13]) rfl ?_
     refine aq (fun h0 h1=> ?_) ?_
     ·
      cases (show dB0=false from h0)
      refine rn hA 1 ?_
      refine ow_ ?_
      exact ih rf dh1 dh2 dh3 dh4 dh5 dh6 dh7 dh8 dh9 e0 rf e5 e4 d7 e2 d8 e1 e3 e7 d6 (cd h0 dhn)
     refine aq (fun h0 h1=> ?_) ?_
     ·
      cases (show dB1=false from h0)
      obtain rfl:dB0=true:=h1.1
      cases dh0 rfl
      refine rn hA 1 ?_
      refine ow_ ?_
      exact ih rf rf dh2 dh3 dh4 dh5 dh6 dh7 dh8 dh9 e0 rf rf e4 d7 e2 d8 e1 e3 e7 d6 (cd h0 dhn)
     refine aq (fun h0 h1=> ?_) ?_
     ·
      cases (show dB2=false from h0)
      refine rn hA 1 ?_
      refine ow_ ?_
      exact ih dh0 dh1 rf dh3 dh4 dh5 dh6 dh7 dh8 dh9 e0 d9 e5 rf d7 e2 d8 e1 e3 e7 d6 (cd h0 dhn)
     refine aq (fun h0 h1=> ?_) ?_
     ·
      cases (show dB3=false from h0)
      obtain rfl:dB1=true:=h1.1
      cases dh1 rfl;cases d9 rfl;cases dh0 rfl
      obtain rfl:dB2=true:=h1.2.1
      cases dh2 rfl
      refine ops_step rfl rfl (idx_sl rfl rfl rfl rfl rfl j3 rfl j4) ?_
      refine ow_ ?_
      exact ih rf rf rf rf dh4 dh5 dh6 dh7 dh8 dh9 e0 rf rf rf rf e2 d8 e1 e3 e7 d6 (cd h0 dhn)
     refine aq (fun h0 h1=> ?_) ?_
     ·
      cases (show dB4=false from h0)
      obtain rfl:dB3=true:=h1.1
      cases dh3 rfl;cases e5 rfl;cases dh1 rfl;cases d9 rfl;cases dh0 rfl;cases e4 rfl;cases dh2 rfl
      refine rn hA 1 ?_
      refine ow_ ?_
      exact ih rf rf rf rf rf dh5 dh6 dh7 dh8 dh9 e0 rf rf rf rf e2 rf e1 e3 e7 d6 (cd h0 dhn)
     refine aq (fun h0 h1=> ?_) ?_
     ·
      cases (show dB5=false from h0)
      refine rn hA 1 ?_
      refine ow_ ?_
      exact ih dh0 dh1 dh2 dh3 dh4 rf dh6 dh7 dh8 dh9 e0 d9 e5 e4 d7 rf d8 e1 e3 e7 d6 (cd h0 dhn)
     refine aq (fun h0 h1=> ?_) ?_
     ·
      cases (show dB6=false from h0)
      obtain rfl:dB5=true:=h1.1
      cases dh5 rfl
      refine rn hA 1 ?_
      refine ow_ ?_
      exact ih dh0 dh1 dh2 dh3 dh4 rf rf dh7 dh8 dh9 e0 d9 e5 e4 d7 rf d8 rf e3 e7 d6 (cd h0 dhn)
     refine aq (fun h0 h1=> ?_) ?_
     ·
      cases (show dB7=false from h0)
      obtain rfl:dB4=true:=h1.1
      cases dh4 rfl;cases d7 rfl;cases dh3 rfl;cases e5 rfl;cases dh1 rfl;cases d9 rfl;cases dh0 rfl;cases e4 rfl;cases dh2 rfl
      obtain rfl:dB6=true:=h1.2.1
      cases dh6 rfl;cases e2 rfl;cases dh5 rfl
      refine cvw j9 (.inr rfl) ?_
      refine ow_ ?_
      exact ih rf rf rf rf rf rf rf rf dh8 dh9 e0 rf rf rf rf rf rf rf rf e7 d6 (cd h0 dhn)
     refine aq (fun h0 h1=> ?_) ?_
     ·
      cases (show dB8=false from h0)
      obtain rfl:dB7=true:=h1.1
      cases dh7 rfl;cases d8 rfl;cases dh4 rfl;cases d7 rfl;cases dh3 rfl;cases e5 rfl;cases dh1 rfl;cases d9 rfl;cases dh0 rfl;cases e4 rfl;cases dh2 rfl;cases e1 rfl;cases dh6 rfl;cases e2 rfl;cases dh5 rfl
      refine rn hA 1 ?_
      refine ow_ ?_
      exact ih rf rf rf rf rf rf rf rf rf dh9 e0 rf rf rf rf rf rf rf rf rf rf (cd h0 dhn)
     refine aq (fun h0 h1=> ?_) ?_
     ·
      cases (show dB9=false from h0)
      obtain rfl:dB8=true:=h1.1
      cases dh8 rfl;cases e3 rfl;cases dh7 rfl;cases d8 rfl;cases dh4 rfl;cases d7 rfl;cases dh3 rfl;cases e5 rfl;cases dh1 rfl;cases d9 rfl;cases dh0 rfl;cases e4 rfl;cases dh2 rfl;cases e1 rfl;cases dh6 rfl;cases e2 rfl;cases dh5 rfl
      refine rn hA 1 ?_
      refine ow_ ?_
      exact ih rf rf rf rf rf rf rf rf rf rf e0 rf rf rf rf rf rf rf rf rf rf (cd h0 dhn)
     refine aq (fun h0 h1=> ?_) ?_
     ·
      cases (show e8=false from h0)
      obtain rfl:dB8=true:=h1.1
      cases dh8 rfl;cases e3 rfl;cases dh7 rfl;cases d8 rfl;cases dh4 rfl;cases d7 rfl;cases dh3 rfl;cases e5 rfl;cases dh1 rfl;cases d9 rfl;cases dh0 rfl;cases e4 rfl;cases dh2 rfl;cases e1 rfl;cases dh6 rfl;cases e2 rfl;cases dh5 rfl
      refine rn hA 1 ?_
      refine ow_ ?_
      exact ih rf rf rf rf rf rf rf rf rf dh9 rf rf rf rf rf rf rf rf rf rf rf (cd h0 dhn)
     refine aq (fun h0 h1=> ?_) ?_
     ·
      refine rn hA 1 ?_
      refine ops_done (dwp_to [.up 23,.up 9,.up 5] (by cbv) rfl ?_)
      exact l3 dn dh0 dh1 dh2 dh3 dh4 dh5 dh6 dh7 dh8 dh9 e0 d9 e5 e4 d7 e2 d8 e1 e3 e7 d6 (cd h0 dhn)
     refine allRdy_q rfl rfl (fun _ h1=>absurd (show false=true from h1.1) (by decide)) ?_
     refine allRdy_q rfl rfl (fun _ h1=>absurd (show false=true from h1.2.1) (by decide)) ?_
     exact trivial
   exact dwp_to [] (by cbv) rfl (@H_ 14 false false false false false false false false false false false (.bad) (.bad) (.bad) (.bad) (.bad) (.bad) (.bad) (.bad) (.bad) (.bad) (.bad) nf nf nf nf nf nf nf nf nf nf nf nf nf nf nf nf nf nf nf nf nf rfl)
  have hbd:ByteArray.size a2≤10485760:=by rw[g1];exact frI_body hA (vtI_len A) hzq _
  refine gr (rn hA 2 ?_)
  obtain⟨f8,j8,l2⟩:∃(f8:Int),f8=(fsz (⟨a5,a4,a2⟩:GFrame))∧Real Tryz.prog 68 [.agg [.ii a5,.ii a4,.str a2]] (.ii f8):=⟨_,rfl,by exact r_impl_FrameSize A hA (⟨a5,a4,a2⟩:GFrame) (by assumption)⟩
  refine cvw l2 (.inr rfl) ?_
  refine rz hA 2 ?_
  refine gy hA 2 ?_
  refine⟨(S38_1 (A.num .add .i64 sm f8) (A.rlen d5) (A.num .add .i64 n 1) f7 d1 f6 d2 d5),List.length (plcA a1 a0 (Int.toNat i)) - (k+1),?_,by cbv,k+1,(A.num .add .i64 n 1),(A.num .add .i64 sm f8),rfl,?_,rfl⟩
  ·
   omega
  have hz1:f8=isz (⟨d3,⟨b3,a6,b5,b0,a7,a9,b2,b1⟩⟩:GItem) d1:=by
   rw[j8,← isz_I hA]
   simp only[i1,i0,g1]
  have hz2:isz ((e6[Int.toNat x10]?).getD zItem) d1=f8:=by rw[k5,hz1];rfl
  have hz3:=isz_le (⟨d3,⟨b3,a6,b5,b0,a7,a9,b2,b1⟩⟩:GItem) d1
  have hz4:=sumP_le d1 e6 (List.take k (plcA a1 a0 (Int.toNat i)))
  rw[List.length_take] at hz4
  refine⟨by rw[add_i64 hA (by omega) (by omega)];omega,by omega,?_⟩
  rw[sumP_at i3,hz2,add_i64 hA (by omega) (by omega),hs]
 have ec9:(A.rlen d5)≤n:=lss_f hA c9
 refine go_exit ⟨fun _=> ?_,fun h=>absurd rfl h⟩
 refine gx hA 2 ?_
 refine rt (gt ?_)
 refine congrArg (PV.int .i64) ?_
 show segL a1 a0 (Int.toNat i)=_
 rw[segL_some j5,segV,if_neg (by show ¬ (frB a1 f7=true);rw[hfr _ j5];decide),hs,List.take_of_length_le (show List.length (plcA a1 a0 (Int.toNat i))≤k by omega),hpl,sumP_plc]
def S20_1 (p0:Int)(p1:Int)(p2:Int)(p3:RR)(p4:RR)(p5:Int)(p6:RR)(p7:Int)(p8:Int)(p9:Int)(p10:Int)(p11:RR):St:={sl:=[.bad,.pt 1 0 0,.bad,.ii p0,.bad,.bad,.bad,.bad,.ii p1,.ii p2,.bad,.bad,.bad,.bad,.bad,.bad,.bad,.bad,.bad],bl:=[(1,⟨.var,9,[[.sl 1 p3,.sl 2 p4,.ii p5,.sl 4 p6,.ii p7,.ii p8,.ii p9,.ii p10,.sl 1 p11]]⟩)]}
theorem r_impl_LiveBytes (A:Alg)(hA:A=std)(x:GStore)(hz:∀ q∈zsStore x,q≤1048576)(hil:(itemsL x.Log.Used).length≤1048576):Real Tryz.prog 20 [.agg (eStore x)] (.ii (totL x.Freed x.Log.Used (List.length x.Log.Used))):=by
 obtain⟨⟨⟨a3,a8⟩,c8,a0,b7,b8,c7,b4⟩,a1⟩:=x
 obtain⟨b6,c0⟩:=nm (a3.map eString)
 have g0:=rlen_map hA c0
 obtain⟨c2,c6⟩:=nm (a8.map eWrite)
 have g3:=rlen_map hA c6
 obtain⟨b9,d4⟩:=nm (a0.map eSeg)
 have i2:=rlen_map hA d4
 obtain⟨f0,e9⟩:=nm (a1.map eInt)
 have i6:=rlen_map hA e9
 refine real_args (args':=[.agg [.sl 1 b6,.sl 2 c2,.ii c8,.sl 4 b9,.ii b7,.ii b8,.ii c7,.ii b4,.sl 1 f0]]) (by subst c0 c6 d4 e9;rfl) ?_
 have g4:∀ q∈zsLog (⟨⟨a3,a8⟩,c8,a0,b7,b8,c7,b4⟩:GLog),q≤1048576:=fun q hq=>hz q (by simp only[zsStore,List.mem_append];simp only[hq,true_or,or_true])
 have f3:∀ q∈zsDisk (⟨a3,a8⟩:GDisk),q≤1048576:=fun q hq=>g4 q (by simp only[zsLog,List.mem_append];simp only[hq,true_or,or_true])
 have f1:∀ q∈zsStringS a3,q≤1048576:=fun q hq=>f3 q (by simp only[zsDisk,List.mem_append];simp only[hq,true_or,or_true])
 have g2:List.length a3≤1048576:=f1 _ (by simp[zsStringS])
 have f2:∀ q∈zsWriteS a8,q≤1048576:=fun q hq=>f3 q (by simp only[zsDisk,List.mem_append];simp only[hq,true_or,or_true])
 have g7:List.length a8≤1048576:=f2 _ (by simp[zsWriteS])
 have f4:∀ q∈zsSegS a0,q≤1048576:=fun q hq=>g4 q (by simp only[zsLog,List.mem_append];simp only[hq,true_or,or_true])
 have i5:List.length a0≤1048576:=f4 _ (by simp[zsSegS])
 have g8:∀ q∈zsIntS a1,q≤1048576:=fun q hq=>hz q (by simp only[zsStore,List.mem_append];simp only[hq,true_or,or_true])
 have j1:List.length a1≤1048576:=g8 _ (by simp[zsIntS])
 have hil:(itemsL a0).length≤1048576:=hil
 have hzs:=zs_itemsL f4 hil
 have hzk:∀ q∈zsItemS (keptL a1 a0),q≤1048576:=zs_kept hzs
 have hki:=keptL_items a1 a0
 refine real tyOk Tryz.func20 (by kernel_rfl) (afun_of rfl ?_)
 refine gx hA 2 ?_
 refine gx hA 1 ?_
 refine gs (gx hA 5 ?_)
 refine go_block ?_
 refine go_loopE (fun σ m=>∃(i:Nat) (n:Int) (sm:Int),σ=(S20_1 sm (A.rlen b9) n b6 c2 c8 b9 b7 b8 c7 b4 f0)∧(n=(i:Int)∧i≤List.length a0∧sm=totL a1 a0 i)∧m=List.length a0 - i) _ [.up 1] [1,3,8,9] [1] (S20_1 0 (A.rlen b9) 0 b6 c2 c8 b9 b7 b8 c7 b4 f0) rfl (by cbv) ⟨0,0,0,rfl,?_,rfl⟩ (fun σ m hI=> ?_)
 ·
  exact⟨rfl,Nat.zero_le _,rfl⟩
 obtain⟨i,n,sm,rfl,⟨hn,hi,hs⟩,rfl⟩:=hI
 refine gx hA 1 ?_
 refine gs ?_
 refine gc (fun c1=> ?_) (fun c1=> ?_)
 ·
  have ec1:n < (A.rlen b9):=lss_t hA c1
  refine gk (gs ?_)
  refine go_block ?_
  refine gx hA 2 ?_
  refine gr (rn hA 3 ?_)
  obtain⟨g6,k0,hc3⟩:∃(g6:Int),g6=(segL a1 a0 (Int.toNat n))∧Real Tryz.prog 38 [.agg [.sl 1 b6,.sl 2 c2,.ii c8,.sl 4 b9,.ii b7,.ii b8,.ii c7,.ii b4,.sl 1 f0],.ii n] (.ii g6):=⟨_,rfl,by subst c0 c6 d4 e9;exact r_impl_LiveOf A hA (⟨⟨⟨a3,a8⟩,c8,a0,b7,b8,c7,b4⟩,a1⟩:GStore) n (by assumption) hil (by omega) (show n < (List.length a0:Int) by omega)⟩
  refine cvw hc3 (.inr rfl) ?_
  refine rz hA 2 ?_
  refine gy hA 2 ?_
  refine⟨(S20_1 (A.num .add .i64 sm g6) (A.rlen b9) (A.num .add .i64 n 1) b6 c2 c8 b9 b7 b8 c7 b4 f0),List.length a0 - (i+1),?_,by cbv,i+1,(A.num .add .i64 n 1),(A.num .add .i64 sm g6),rfl,?_,rfl⟩
  ·
   omega
  have hq1:=totL_le a1 a0 i
  have hq2:=segL_le a1 a0 i
  have hq3:=itemsL_le a0 i
  have hq4:=itemsL_le a0 (i+1)
  have hq5:g6=segL a1 a0 i:=by rw[k0,hn];rfl
  refine⟨by rw[add_i64 hA (by omega) (by omega)];omega,by omega,?_⟩
  unfold totL
  rw[add_i64 hA (by omega) (by omega),hs,hq5]
 have ec1:(A.rlen b9)≤n:=lss_f hA c1
 refine go_exit ⟨fun _=> ?_,fun h=>absurd rfl h⟩
 refine gx hA 2 ?_
 refine rt (gt ?_)
 refine congrArg (PV.int .i64) ?_
 rw[hs,show i=List.length a0 by omega]
end Go.Av
