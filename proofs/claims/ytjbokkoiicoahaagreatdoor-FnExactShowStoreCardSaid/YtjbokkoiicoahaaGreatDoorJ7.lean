/- Walks: what the items tell. -/
import Derived.Test.YtjbokkoiicoahaaGreatDoorJ6
import Derived.Test.YtjbokkoiicoahaaGreatDoorJ4
import Derived.Test.YtjbokkoiicoahaaGreatDoorPl
namespace Go.Av
open Go Go.Proofs
set_option maxRecDepth 100000
set_option maxHeartbeats 4000000
set_option linter.unusedVariables false
set_option linter.unusedSimpArgs false
theorem nextS_at {a:Int}{us:List Int}{i:Nat}{u:Int}(h:us[i]? =some u):nextS a (us.take (i+1))=max (nextS a (us.take i)) (u+1):=by
 rw[List.take_add_one,h];simp[nextS,List.foldl_append]
theorem fm_at {β:Type}{f:Int→Option β}{us:List Int}{i:Nat}{u:Int}(h:us[i]? =some u):(us.take (i+1)).filterMap f=(us.take i).filterMap f++(f u).toList:=by
 rw[List.take_add_one,h,List.filterMap_append]
 refine congrArg _ ?_
 cases hf:f u<;>simp[hf]
theorem uid_rng {xs:List GItem}(hok:itemsOk xs=true){v u:Int}(h:u∈numS (uidP v) GRec.Uid xs):1≤u∧u≤9999:=by
 obtain⟨x,hx,hp,rfl⟩:=((numS_spec _ _ _).2 _).1 h
 refine(rec_facts (items_rec hok hx)).2.2.2.2 ?_
 unfold uidP at hp
 rw[Bool.or_eq_true,kindIs_iff,kindIs_iff] at hp
 omega
theorem fm_len {β:Type}(f:Int→Option β)(us:List Int)(i:Nat):((us.take i).filterMap f).length≤us.length:=by
 have h1:=List.length_filterMap_le f (us.take i)
 rw[List.length_take] at h1;omega
def S73_1 (p0:RR)(p1:Int)(p2:Int)(p3:Int)(p4:ByteArray)(p5:Int)(p6:ByteArray)(p7:ByteArray)(p8:Int)(p9:RR)(p10:RR):St:={sl:=[.sl 9 p0,.bad,.bad,.bad,.pt 4 0 0,.pt 5 0 0,.pt 6 0 0,.bad,.bad,.bad,.bad,.bad,.bad,.bad,.bad,.bad,.bad,.bad,.bad,.bad,.bad,.bad,.bad,.bad,.bad,.bad,.bad,.bad,.bad,.bad,.bad,.bad,.own 31,.ii p1,.ii p2,.bad,.bad,.bad,.bad,.bad,.bad,.bad,.bad,.bad,.bad,.bad,.bad,.bad,.bad,.bad,.bad,.bad,.bad,.bad,.bad,.bad,.bad,.bad,.bad,.bad,.bad,.bad,.bad,.bad,.bad,.bad,.bad,.bad,.bad,.bad,.bad,.bad,.bad,.bad,.bad,.bad,.bad,.bad,.bad,.bad,.bad],bl:=[(4,⟨.var,5,[[.ii p3,.str p4,.str p4,.ii p3,.zc]]⟩),(5,⟨.var,1,[[.ii p5]]⟩),(6,⟨.var,5,[[.ii p5,.str p6,.str p7,.ii p8,.own 7003]]⟩),(31,⟨.arr,1,p9⟩),(7003,⟨.arr,3,p10⟩)]}
theorem r_impl_boxState (A:Alg)(hA:A=std)(xs:List GItem)(x:GItem)(hok:itemsOk xs=true)(hx:List.length xs≤1048576):Real Tryz.prog 73 [.sl 9 (List.map eItem xs),.agg (eItem x)] (.agg (eoBox (boxS xs x))):=by
 obtain⟨b7,d6⟩:=nm (xs.map eItem)
 have l5:=rlen_map hA d6
 obtain⟨l3,⟨k4,a8,k5,g0,k1,c6,c2,k2⟩⟩:=x
 refine real_args (args':=[.sl 9 b7,.agg [.ii l3,.ii k4,.ii a8,.ii k5,.ii g0,.ii k1,.str c6,.str c2,.str k2]]) (by subst d6;rfl) ?_
 have hx6:(List.length xs:Int)≤4611686018427387904:=by omega
 have hul:=num_le (uidP a8) GRec.Uid xs
 refine real tyOk Tryz.func73 (by kernel_rfl) (afun_of rfl ?_)
 refine gx hA 2 ?_
 refine gx hA 5 ?_
 refine gx hA 13 ?_
 refine gs (gr (rn hA 2 ?_))
 obtain⟨c1,g6,hc2⟩:∃(c1:RR),c1=List.map eInt (numS (uidP a8) GRec.Uid xs)∧Real Tryz.prog 70 [.sl 9 b7,.fn 109 [.rd [.ii a8]]] (.ow 1 c1):=⟨_,rfl,by subst d6;exact r_numbers_uid A hA xs a8 (by omega)⟩
 have m9:=rlen_map hA g6
 refine cvw hc2 (.inl (by simp only[fresh,freshL,g6,frR_Int,and_self])) ?_
 refine rz hA 1 ?_
 refine gs (gx hA 3 ?_)
 refine go_block ?_
 refine go_loopE (fun σ m=>∃(i:Nat) (n:Int) (nx:Int) (R:RR),σ=(S73_1 b7 (A.rlen c1) n 0 ByteArray.empty a8 c6 c2 nx c1 R)∧(n=(i:Int)∧i≤List.length (numS (uidP a8) GRec.Uid xs)∧nx=nextS g0 (List.take i (numS (uidP a8) GRec.Uid xs))∧R=List.map eoMail (List.filterMap (mailOf a8 xs) (List.take i (numS (uidP a8) GRec.Uid xs))))∧m=List.length (numS (uidP a8) GRec.Uid xs) - i) _ [.cell 6 4 7003 3,.up 7003,.up 31,.up 6,.up 5,.up 4,.up 3] [0,4,5,6,32,33,34] [4,5,6,31,7003] (S73_1 b7 (A.rlen c1) 0 0 ByteArray.empty a8 c6 c2 g0 c1 ([])) rfl (by cbv) ⟨0,0,g0,[],rfl,?_,rfl⟩ (fun σ m hI=> ?_)
 ·
  exact⟨rfl,Nat.zero_le _,rfl,rfl⟩
 obtain⟨i,n,nx,R,rfl,⟨hn,hi,hN,hR⟩,rfl⟩:=hI
 refine gx hA 1 ?_
 refine gs ?_
 refine gc (fun c3=> ?_) (fun c3=> ?_)
 ·
  have ec3:n < (A.rlen c1):=lss_t hA c3
  refine gk (gs ?_)
  refine go_block ?_
  refine gs (gr ?_)
  have m5:(0:Int)≤n:=by
   omega
  have m1:(Int.toNat n) < List.length (numS (uidP a8) GRec.Uid xs):=by
   omega
  obtain⟨x4,hx4⟩:∃ x,(numS (uidP a8) GRec.Uid xs)[(Int.toNat n)]? =some x:=⟨_,List.getElem?_eq_getElem m1⟩
  have l7:=List.mem_of_getElem? hx4
  have m4:c1[(Int.toNat n)]? =some [.ii x4]:=by
   exact map_at eInt g6 hx4
  have g8:=hx4
  rw[hn] at g8
  have g8:(numS (uidP a8) GRec.Uid xs)[i]? =some x4:=g8
  have n1:=uid_rng hok l7
  have wadd:A.num .add .i64 x4 1=x4+1:=add_i64 hA (by omega) (by omega)
  have l4:n < (List.length c1:Int):=by
   rw[g6,List.length_map];omega
  refine ops_step rfl rfl (idx_own rfl rfl rfl rfl rfl rfl m5 l4 rfl) ?_
  refine ops_step rfl rfl (ld_arr rfl rfl rfl rfl m4 rfl) ?_
  refine rz hA 1 ?_
  refine gs (gr (rn hA 4 ?_))
  obtain⟨m6,hm6⟩:=nm (max nx (A.num .add .i64 x4 1):Int)
  refine ops_ext rfl (ext_max rfl rfl rfl hm6) ?_
  refine rz hA 2 ?_
  refine gs (gr (rn hA 3 ?_))
  obtain⟨g5,e1,d4,e2,d7,b9,d8,e0,b1,g7,i7,f6,f2,g2,f5,f0,f7,f9,f4,g3,hc8⟩:∃(g5:Int) (e1:Int) (d4:Int) (e2:Int) (d7:Int) (b9:Int) (d8:ByteArray) (e0:ByteArray) (b1:ByteArray) (g7:Bool),g5=((Option.getD (mailAt a8 x4 xs) zItem).Seq)∧e1=(((Option.getD (mailAt a8 x4 xs) zItem).Rec).Kind)∧d4=(((Option.getD (mailAt a8 x4 xs) zItem).Rec).Valid)∧e2=(((Option.getD (mailAt a8 x4 xs) zItem).Rec).Uid)∧d7=(((Option.getD (mailAt a8 x4 xs) zItem).Rec).Next)∧b9=(((Option.getD (mailAt a8 x4 xs) zItem).Rec).Flags)∧d8=(((Option.getD (mailAt a8 x4 xs) zItem).Rec).User)∧e0=(((Option.getD (mailAt a8 x4 xs) zItem).Rec).Name)∧b1=(((Option.getD (mailAt a8 x4 xs) zItem).Rec).Text)∧g7=(Option.isSome (mailAt a8 x4 xs))∧Real Tryz.prog 110 [.sl 9 b7,.ii a8,.ii x4] (.tup [.agg [.ii g5,.ii e1,.ii d4,.ii e2,.ii d7,.ii b9,.str d8,.str e0,.str b1],.bool g7]):=⟨_,_,_,_,_,_,_,_,_,_,rfl,rfl,rfl,rfl,rfl,rfl,rfl,rfl,rfl,rfl,by subst d6;exact r_impl_mailThere A hA xs a8 x4 (by assumption)⟩
  refine cvw hc8 (.inr rfl) ?_
  refine rz hA 6 ?_
  refine gs (gx hA 2 ?_)
  refine gc (fun c9=> ?_) (fun c9=> ?_)
  ·
   have c10:g7=false:=bnot_t hA c9
   refine go_exit ⟨fun _=> ?_,fun h=>absurd rfl h⟩
   refine gy hA 2 ?_
   refine⟨(S73_1 b7 (A.rlen c1) (A.num .add .i64 n 1) 0 ByteArray.empty a8 c6 c2 m6 c1 R),List.length (numS (uidP a8) GRec.Uid xs) - (i+1),?_,by cbv,i+1,(A.num .add .i64 n 1),m6,R,rfl,?_,rfl⟩
   ·
    omega
   have hM:mailOf a8 xs x4=none:=by
    unfold mailOf
    rw[if_neg (by rw[← g3,c10];decide)]
   refine⟨by rw[add_i64 hA (by omega) (by omega)];omega,by omega,by rw[nextS_at g8,← hN,hm6,wadd],?_⟩
   rw[fm_at g8,hM,hR]
   simp
  have c11:g7=true:=bnot_f hA c9
  refine gk (gx hA 10 ?_)
  refine gs (gs (gr (rn hA 3 ?_)))
  obtain⟨g1,d1,c7,d9,d0,b8,d2,d3,d5,j0,g9,f1,e4,f8,e7,e3,e8,e6,e9,g4,l9⟩:∃(g1:Int) (d1:Int) (c7:Int) (d9:Int) (d0:Int) (b8:Int) (d2:ByteArray) (d3:ByteArray) (d5:ByteArray) (j0:Bool),g1=((Option.getD (lat (mailIs 4 a8 x4) bySeqB xs) zItem).Seq)∧d1=(((Option.getD (lat (mailIs 4 a8 x4) bySeqB xs) zItem).Rec).Kind)∧c7=(((Option.getD (lat (mailIs 4 a8 x4) bySeqB xs) zItem).Rec).Valid)∧d9=(((Option.getD (lat (mailIs 4 a8 x4) bySeqB xs) zItem).Rec).Uid)∧d0=(((Option.getD (lat (mailIs 4 a8 x4) bySeqB xs) zItem).Rec).Next)∧b8=(((Option.getD (lat (mailIs 4 a8 x4) bySeqB xs) zItem).Rec).Flags)∧d2=(((Option.getD (lat (mailIs 4 a8 x4) bySeqB xs) zItem).Rec).User)∧d3=(((Option.getD (lat (mailIs 4 a8 x4) bySeqB xs) zItem).Rec).Name)∧d5=(((Option.getD (lat (mailIs 4 a8 x4) bySeqB xs) zItem).Rec).Text)∧j0=(Option.isSome (lat (mailIs 4 a8 x4) bySeqB xs))∧Real Tryz.prog 111 [.sl 9 b7,.ii 4,.ii a8,.ii x4] (.tup [.agg [.ii g1,.ii d1,.ii c7,.ii d9,.ii d0,.ii b8,.str d2,.str d3,.str d5],.bool j0]):=⟨_,_,_,_,_,_,_,_,_,_,rfl,rfl,rfl,rfl,rfl,rfl,rfl,rfl,rfl,rfl,by subst d6;exact r_impl_mailItem A hA xs 4 a8 x4 (by assumption)⟩
  refine cvw l9 (.inr rfl) ?_
  refine rz hA 6 ?_
  refine gx hA 1 ?_
  refine gc (fun c14=> ?_) (fun c14=> ?_)
  ·
   refine gy hA 5 ?_
   refine gr (rn hA 4 ?_)
   obtain⟨r15,l0⟩:=nm (R++[[.ii x4,.ii b8,.str b1]]:RR)
   have k9:r15=List.map eoMail ((List.filterMap (mailOf a8 xs) (List.take i (numS (uidP a8) GRec.Uid xs)))++([(⟨x4,b8,b1⟩:GMail)])):=by rw[l0];exact app_eq hR (by rfl)
   have n2:=rlen_map hA k9
   refine ops_step rfl rfl (app_own rfl rfl rfl rfl rfl rfl rfl rfl l0 (by cbv) (by cbv) (by cbv) rfl (by
    show(List.length R+List.length ([[.ii x4,.ii b8,.str b1]])) * _≤_
    have h1:=fm_len (mailOf a8 xs) (numS (uidP a8) GRec.Uid xs) i
    have h2:=num_le (uidP a8) GRec.Uid xs
    show(List.length R+1) * 32≤_
    rw[hR,List.length_map];omega) (by decide) (by decide)) ?_
   refine rz hA 2 ?_
   refine gy hA 2 ?_
   refine⟨(S73_1 b7 (A.rlen c1) (A.num .add .i64 n 1) 0 ByteArray.empty a8 c6 c2 m6 c1 r15),List.length (numS (uidP a8) GRec.Uid xs) - (i+1),?_,by cbv,i+1,(A.num .add .i64 n 1),m6,r15,rfl,?_,rfl⟩
   ·
    omega
   have hM:mailOf a8 xs x4=some (⟨x4,b8,b1⟩:GMail):=by
    unfold mailOf mailX
    rw[if_pos (by rw[← g3,c11]),if_pos (by rw[← g4,c14])]
    simp only[g6,hm6,i7,f6,f2,g2,f5,f0,f7,f9,f4,g3,g9,f1,e4,f8,e7,e3,e8,e6,e9,g4]
   refine⟨by rw[add_i64 hA (by omega) (by omega)];omega,by omega,by rw[nextS_at g8,← hN,hm6,wadd],?_⟩
   rw[fm_at g8,hM]
   exact k9
  refine gk (gr (rn hA 4 ?_))
  obtain⟨r16,j5⟩:=nm (R++[[.ii x4,.ii b9,.str b1]]:RR)
  have j4:r16=List.map eoMail ((List.filterMap (mailOf a8 xs) (List.take i (numS (uidP a8) GRec.Uid xs)))++([(⟨x4,b9,b1⟩:GMail)])):=by rw[j5];exact app_eq hR (by rfl)
  have m7:=rlen_map hA j4
  refine ops_step rfl rfl (app_own rfl rfl rfl rfl rfl rfl rfl rfl j5 (by cbv) (by cbv) (by cbv) rfl (by
   show(List.length R+List.length ([[.ii x4,.ii b9,.str b1]])) * _≤_
   have h1:=fm_len (mailOf a8 xs) (numS (uidP a8) GRec.Uid xs) i
   have h2:=num_le (uidP a8) GRec.Uid xs
   show(List.length R+1) * 32≤_
   rw[hR,List.length_map];omega) (by decide) (by decide)) ?_
  refine rz hA 2 ?_
  refine gy hA 2 ?_
  refine⟨(S73_1 b7 (A.rlen c1) (A.num .add .i64 n 1) 0 ByteArray.empty a8 c6 c2 m6 c1 r16),List.length (numS (uidP a8) GRec.Uid xs) - (i+1),?_,by cbv,i+1,(A.num .add .i64 n 1),m6,r16,rfl,?_,rfl⟩
  ·
   omega
  have hM:mailOf a8 xs x4=some (⟨x4,b9,b1⟩:GMail):=by
   unfold mailOf mailX
   rw[if_pos (by rw[← g3,c11]),if_neg (by rw[← g4,c14];decide)]
   simp only[g6,hm6,i7,f6,f2,g2,f5,f0,f7,f9,f4,g3,g9,f1,e4,f8,e7,e3,e8,e6,e9,g4]
  refine⟨by rw[add_i64 hA (by omega) (by omega)];omega,by omega,by rw[nextS_at g8,← hN,hm6,wadd],?_⟩
  rw[fm_at g8,hM]
  exact j4
 have ec3:(A.rlen c1)≤n:=lss_f hA c3
 refine go_exit ⟨fun _=> ?_,fun h=>absurd rfl h⟩
 refine gx hA 2 ?_
 refine rt (gt ?_)
 show _=(PV.agg [.ii a8,.str c6,.str c2,.ii nx,.ow 3 R])
 have hle:List.length (numS (uidP a8) GRec.Uid xs)≤i:=by omega
 rw[List.take_of_length_le hle] at hN hR
 simp only[hN,hR]
 rfl
def S39_1 (p0:RR)(p1:Int)(p2:Int)(p3:RR)(p4:RR):St:={sl:=[.sl 9 p0,.bad,.pt 2 0 0,.pt 3 0 0,.bad,.bad,.bad,.bad,.bad,.bad,.bad,.bad,.bad,.bad,.own 14,.ii p1,.ii p2,.bad,.bad,.bad,.bad,.bad,.bad,.bad,.bad,.bad,.bad,.bad,.bad,.bad,.bad,.bad,.bad,.bad,.bad,.bad,.bad],bl:=[(2,⟨.var,1,[[.zc]]⟩),(3,⟨.var,1,[[.own 7003]]⟩),(14,⟨.arr,1,p3⟩),(7003,⟨.arr,5,p4⟩)]}
theorem r_impl_StateOf (A:Alg)(hA:A=std)(xs:List GItem)(hz:∀ q∈zsItemS xs,q≤1048576):Real Tryz.prog 39 [.sl 9 (List.map eItem xs)] (.agg (eoState (stateS xs))):=by
 obtain⟨b7,d6⟩:=nm (xs.map eItem)
 have l5:=rlen_map hA d6
 refine real_args (args':=[.sl 9 b7]) (by subst d6;rfl) ?_
 have hx:List.length xs≤1048576:=hz _ (List.mem_cons_self ..)
 have hx6:(List.length xs:Int)≤4611686018427387904:=by omega
 have hzI:∀ q∈zsItemS xs,(q:Int)≤4611686018427387904:=fun q hq=>by have:=hz q hq;omega
 have hul:=num_le boxP GRec.Valid xs
 refine real tyOk Tryz.func39 (by kernel_rfl) (afun_of rfl ?_)
 refine gx hA 1 ?_
 refine gs (gs (gr (rn hA 1 ?_)))
 obtain⟨j6,k3,hc2⟩:∃(j6:Bool),j6=(itemsOk xs)∧Real Tryz.prog 69 [.sl 9 b7] (.bool j6):=⟨_,rfl,by subst d6;exact r_impl_ItemsOk A hA xs hzI⟩
 refine cvw hc2 (.inr rfl) ?_
 refine rz hA 1 ?_
 refine gc (fun c3=> ?_) (fun c3=> ?_)
 ·
  have c4:j6=false:=bnot_t hA c3
  refine gs (gB (rn hA 2 ?_))
  refine ops_doneB (tw:=[.cell 2 0 9001 5]) (by cbv) ?_
  refine rt (gt ?_)
  show _=(PV.agg [.ow 5 ([])])
  have hS:stateS xs=⟨[]⟩:=by rw[stateS,if_neg (by rw[← k3,c4];decide)]
  rw[hS]
  rfl
 have c5:j6=true:=bnot_f hA c3
 refine gk (gs ?_)
 have hok:itemsOk xs=true:=by rw[← k3,c5]
 refine gy hA 3 ?_
 refine gs (gs (gr (rn hA 1 ?_)))
 obtain⟨b2,j1,hc7⟩:∃(b2:RR),b2=List.map eInt (numS boxP GRec.Valid xs)∧Real Tryz.prog 70 [.sl 9 b7,.fn 71 []] (.ow 1 b2):=⟨_,rfl,by subst d6;exact r_numbers_box A hA xs (by omega)⟩
 have m8:=rlen_map hA j1
 refine cvw hc7 (.inr rfl) ?_
 refine rz hA 2 ?_
 refine go_block ?_
 refine go_loopE (fun σ m=>∃(i:Nat) (n:Int) (R:RR),σ=(S39_1 b7 (A.rlen b2) n b2 R)∧(n=(i:Int)∧i≤List.length (numS boxP GRec.Valid xs)∧R=List.map eoBox (List.filterMap (boxOf xs) (List.take i (numS boxP GRec.Valid xs))))∧m=List.length (numS boxP GRec.Valid xs) - i) _ [.cell 3 0 7003 5,.up 7003,.up 14,.up 3,.up 2] [0,2,3,14,15,16] [2,3,14,7003] (S39_1 b7 (A.rlen b2) 0 b2 ([])) rfl (by cbv) ⟨0,0,[],rfl,?_,rfl⟩ (fun σ m hI=> ?_)
 ·
  exact⟨rfl,Nat.zero_le _,rfl⟩
 obtain⟨i,n,R,rfl,⟨hn,hi,hR⟩,rfl⟩:=hI
 refine gx hA 1 ?_
 refine gs ?_
 refine gc (fun c8=> ?_) (fun c8=> ?_)
 ·
  have ec8:n < (A.rlen b2):=lss_t hA c8
  refine gk (gs ?_)
  refine go_block ?_
  refine gs (gr ?_)
  have m3:(0:Int)≤n:=by
   omega
  have m2:(Int.toNat n) < List.length (numS boxP GRec.Valid xs):=by
   omega
  obtain⟨x9,hx9⟩:∃ x,(numS boxP GRec.Valid xs)[(Int.toNat n)]? =some x:=⟨_,List.getElem?_eq_getElem m2⟩
  have n0:=List.mem_of_getElem? hx9
  have l8:b2[(Int.toNat n)]? =some [.ii x9]:=by
   exact map_at eInt j1 hx9
  have j9:=hx9
  rw[hn] at j9
  have j9:(numS boxP GRec.Valid xs)[i]? =some x9:=j9
  have l1:n < (List.length b2:Int):=by
   rw[j1,List.length_map];omega
  refine ops_step rfl rfl (idx_own rfl rfl rfl rfl rfl rfl m3 l1 rfl) ?_
  refine ops_step rfl rfl (ld_arr rfl rfl rfl rfl l8 rfl) ?_
  refine rz hA 1 ?_
  refine gs (gr (rn hA 2 ?_))
  obtain⟨a9,a6,a0,a7,a5,a1,a4,a3,a2,b0,j3,i6,i0,i9,i4,i1,i2,i5,i3,i8,m0⟩:∃(a9:Int) (a6:Int) (a0:Int) (a7:Int) (a5:Int) (a1:Int) (a4:ByteArray) (a3:ByteArray) (a2:ByteArray) (b0:Bool),a9=((Option.getD (boxAt x9 xs) zItem).Seq)∧a6=(((Option.getD (boxAt x9 xs) zItem).Rec).Kind)∧a0=(((Option.getD (boxAt x9 xs) zItem).Rec).Valid)∧a7=(((Option.getD (boxAt x9 xs) zItem).Rec).Uid)∧a5=(((Option.getD (boxAt x9 xs) zItem).Rec).Next)∧a1=(((Option.getD (boxAt x9 xs) zItem).Rec).Flags)∧a4=(((Option.getD (boxAt x9 xs) zItem).Rec).User)∧a3=(((Option.getD (boxAt x9 xs) zItem).Rec).Name)∧a2=(((Option.getD (boxAt x9 xs) zItem).Rec).Text)∧b0=(Option.isSome (boxAt x9 xs))∧Real Tryz.prog 72 [.sl 9 b7,.ii x9] (.tup [.agg [.ii a9,.ii a6,.ii a0,.ii a7,.ii a5,.ii a1,.str a4,.str a3,.str a2],.bool b0]):=⟨_,_,_,_,_,_,_,_,_,_,rfl,rfl,rfl,rfl,rfl,rfl,rfl,rfl,rfl,rfl,by subst d6;exact r_impl_boxThere A hA xs x9 (by assumption)⟩
  refine cvw m0 (.inr rfl) ?_
  refine rz hA 6 ?_
  refine gx hA 1 ?_
  refine gc (fun c13=> ?_) (fun c13=> ?_)
  ·
   obtain⟨b3,b6,b4,b5,c0,j2,j7,k0,j8,f3,l6⟩:∃(b3:Int) (b6:ByteArray) (b4:ByteArray) (b5:Int) (c0:RR),b3=((boxS xs (⟨a9,⟨a6,a0,a7,a5,a1,a4,a3,a2⟩⟩:GItem)).Valid)∧b6=((boxS xs (⟨a9,⟨a6,a0,a7,a5,a1,a4,a3,a2⟩⟩:GItem)).User)∧b4=((boxS xs (⟨a9,⟨a6,a0,a7,a5,a1,a4,a3,a2⟩⟩:GItem)).Name)∧b5=((boxS xs (⟨a9,⟨a6,a0,a7,a5,a1,a4,a3,a2⟩⟩:GItem)).Next)∧c0=List.map eoMail ((boxS xs (⟨a9,⟨a6,a0,a7,a5,a1,a4,a3,a2⟩⟩:GItem)).Mails)∧Real Tryz.prog 73 [.sl 9 b7,.agg [.ii a9,.ii a6,.ii a0,.ii a7,.ii a5,.ii a1,.str a4,.str a3,.str a2]] (.agg [.ii b3,.str b6,.str b4,.ii b5,.ow 3 c0]):=⟨_,_,_,_,_,rfl,rfl,rfl,rfl,rfl,by subst d6;exact r_impl_boxState A hA xs (⟨a9,⟨a6,a0,a7,a5,a1,a4,a3,a2⟩⟩:GItem) hok hx⟩
   have k8:=rlen_map hA f3
   obtain⟨r16,j5⟩:=nm (R++[[.ii b3,.str b6,.str b4,.ii b5,.ow 3 c0]]:RR)
   have j4:r16=List.map eoBox ((List.filterMap (boxOf xs) (List.take i (numS boxP GRec.Valid xs)))++([(⟨b3,b6,b4,b5,(boxS xs (⟨a9,⟨a6,a0,a7,a5,a1,a4,a3,a2⟩⟩:GItem)).Mails⟩:GBox)])):=by rw[j5];exact app_eq hR (by simp only[f3];rfl)
   have m7:=rlen_map hA j4
   refine go_drawE [0,1,2,3,4,5,6,7,8] (by cbv) rfl rfl ({sl:=[.sl 9 b7,.bad,.pt 2 0 0,.pt 3 0 0,.bad,.ii x9,.pt 6 0 0,.bool b0,.bad,.bad,.bad,.bad,.bad,.bad,.own 14,.ii (A.rlen b2),.ii n,.bool (A.cmp .lss n (A.rlen b2)),.pt 14 (Int.toNat n) 0,.ii x9,.tup [.agg [.ii a9,.ii a6,.ii a0,.ii a7,.ii a5,.ii a1,.str a4,.str a3,.str a2],.bool b0],.sl 9 b7,.ii x9,.tup [.agg [.ii a9,.ii a6,.ii a0,.ii a7,.ii a5,.ii a1,.str a4,.str a3,.str a2],.bool b0],.agg [.ii a9,.ii a6,.ii a0,.ii a7,.ii a5,.ii a1,.str a4,.str a3,.str a2],.bool b0,.bool b0,.pt 3 0 0,.bad,.sl 9 b7,.agg [.ii a9,.ii a6,.ii a0,.ii a7,.ii a5,.ii a1,.str a4,.str a3,.str a2],.agg [.ii b3,.str b6,.str b4,.ii b5,.bad],.bad,.own 7003,.pt 3 0 0,.bad,.bad],bl:=[(2,⟨.var,1,[[.zc]]⟩),(3,⟨.var,1,[[.own 7003]]⟩),(6,⟨.var,9,[[.ii a9,.ii a6,.ii a0,.ii a7,.ii a5,.ii a1,.str a4,.str a3,.str a2]]⟩),(14,⟨.arr,1,b2⟩),(7003,⟨.arr,5,r16⟩)]}:St) (fun dR dK dhR dhF=> ?_) ?_
   ·
    have k6:∀(dn:Nat),cntF [true,true,true,true,true,true,true,true,true]=dn→dwp T ⟨Real Tryz.prog,RealM Tryz.prog,RealC Tryz.prog⟩ dR dK dn [true,true,true,true,true,true,true,true,true] ({sl:=[.sl 9 b7,.bad,.pt 2 0 0,.pt 3 0 0,.bad,.ii x9,.pt 6 0 0,.bool b0,.bad,.bad,.bad,.bad,.bad,.bad,.own 14,.ii (A.rlen b2),.ii n,.bool (A.cmp .lss n (A.rlen b2)),.pt 14 (Int.toNat n) 0,.ii x9,.tup [.agg [.ii a9,.ii a6,.ii a0,.ii a7,.ii a5,.ii a1,.str a4,.str a3,.str a2],.bool b0],.sl 9 b7,.ii x9,.tup [.agg [.ii a9,.ii a6,.ii a0,.ii a7,.ii a5,.ii a1,.str a4,.str a3,.str a2],.bool b0],.agg [.ii a9,.ii a6,.ii a0,.ii a7,.ii a5,.ii a1,.str a4,.str a3,.str a2],.bool b0,.bool b0,.pt 3 0 0,.bad,.sl 9 b7,.agg [.ii a9,.ii a6,.ii a0,.ii a7,.ii a5,.ii a1,.str a4,.str a3,.str a2],.agg [.ii b3,.str b6,.str b4,.ii b5,.bad],.bad,.own 7003,.pt 3 0 0,.bad,.bad],bl:=[(2,⟨.var,1,[[.zc]]⟩),(3,⟨.var,1,[[.own 7003]]⟩),(6,⟨.var,9,[[.ii a9,.ii a6,.ii a0,.ii a7,.ii a5,.ii a1,.str a4,.str a3,.str a2]]⟩),(14,⟨.arr,1,b2⟩),(7003,⟨.arr,5,r16⟩)]}:St):=by
     intro dn
     induction dn with
     | zero=>
      intro dhn
      exact dwp_last dhF
     | succ dn ih=>
      intro dhn
      subst dhR
      refine dwp_next (is:=[0,1,2,3,4,5,6,7,8]) rfl ?_
      refine an ?_
      refine an ?_
      refine an ?_
      refine an ?_
      refine an ?_
      refine an ?_
      refine an ?_
      refine an ?_
      refine an ?_
      exact trivial
    have k7:∀(dn:Nat) {dB7:Bool} {dQ7:PV},(dB7=true→dQ7=.pt 3 0 0)→cntF [true,true,true,true,true,true,true,dB7,false]=dn→dwp T ⟨Real Tryz.prog,RealM Tryz.prog,RealC Tryz.prog⟩ dR dK dn [true,true,true,true,true,true,true,dB7,false] ({sl:=[.sl 9 b7,.bad,.pt 2 0 0,.pt 3 0 0,.bad,.ii x9,.pt 6 0 0,.bool b0,.bad,.bad,.bad,.bad,.bad,.bad,.own 14,.ii (A.rlen b2),.ii n,.bool (A.cmp .lss n (A.rlen b2)),.pt 14 (Int.toNat n) 0,.ii x9,.tup [.agg [.ii a9,.ii a6,.ii a0,.ii a7,.ii a5,.ii a1,.str a4,.str a3,.str a2],.bool b0],.sl 9 b7,.ii x9,.tup [.agg [.ii a9,.ii a6,.ii a0,.ii a7,.ii a5,.ii a1,.str a4,.str a3,.str a2],.bool b0],.agg [.ii a9,.ii a6,.ii a0,.ii a7,.ii a5,.ii a1,.str a4,.str a3,.str a2],.bool b0,.bool b0,.pt 3 0 0,.bad,.sl 9 b7,.agg [.ii a9,.ii a6,.ii a0,.ii a7,.ii a5,.ii a1,.str a4,.str a3,.str a2],.agg [.ii b3,.str b6,.str b4,.ii b5,.bad],.bad,.own 7003,dQ7,.bad,.bad],bl:=[(2,⟨.var,1,[[.zc]]⟩),(3,⟨.var,1,[[.bad]]⟩),(6,⟨.var,9,[[.ii a9,.ii a6,.ii a0,.ii a7,.ii a5,.ii a1,.str a4,.str a3,.str a2]]⟩),(14,⟨.arr,1,b2⟩),(7003,⟨.arr,5,r16⟩)]}:St):=by
     intro dn
     induction dn with
     | zero=>
      intro dB7 dQ7 dh7 dhn
      exact absurd (show false=true from cntF_zero _ dhn 8 (by show 8 < 9;decide)) (by decide)
     | succ dn ih=>
      intro dB7 dQ7 dh7 dhn
      subst dhR
      refine dwp_next (is:=[0,1,2,3,4,5,6,7,8]) rfl ?_
      refine an ?_
      refine an ?_
      refine an ?_
      refine an ?_
      refine an ?_
      refine an ?_
      refine an ?_
      refine aq (fun h0 h1=> ?_) ?_
      ·
       cases (show dB7=false from h0)
       refine rn hA 1 ?_
       refine ow_ ?_
       exact ih rf (cd h0 dhn)
      refine aq (fun h0 h1=> ?_) ?_
      ·
       obtain rfl:dB7=true:=h1.1
       cases dh7 rfl
       refine rn hA 1 ?_
       refine ow_ ?_
       exact k6 dn (cd h0 dhn)
      exact trivial
    have l2:∀(dn:Nat) {dB0 dB1:Bool} {dQ0 dQ1:PV},(dB0=true→dQ0=.pt 3 0 0)→(dB1=true→dQ1=.own 7003)→(dB1=true→dB0=true)→cntF [dB0,dB1,true,true,true,true,false,false,false]=dn→dwp T ⟨Real Tryz.prog,RealM Tryz.prog,RealC Tryz.prog⟩ dR dK dn [dB0,dB1,true,true,true,true,false,false,false] ({sl:=[.sl 9 b7,.bad,.pt 2 0 0,.pt 3 0 0,.bad,.ii x9,.pt 6 0 0,.bool b0,.bad,.bad,.bad,.bad,.bad,.bad,.own 14,.ii (A.rlen b2),.ii n,.bool (A.cmp .lss n (A.rlen b2)),.pt 14 (Int.toNat n) 0,.ii x9,.tup [.agg [.ii a9,.ii a6,.ii a0,.ii a7,.ii a5,.ii a1,.str a4,.str a3,.str a2],.bool b0],.sl 9 b7,.ii x9,.tup [.agg [.ii a9,.ii a6,.ii a0,.ii a7,.ii a5,.ii a1,.str a4,.str a3,.str a2],.bool b0],.agg [.ii a9,.ii a6,.ii a0,.ii a7,.ii a5,.ii a1,.str a4,.str a3,.str a2],.bool b0,.bool b0,dQ0,dQ1,.sl 9 b7,.agg [.ii a9,.ii a6,.ii a0,.ii a7,.ii a5,.ii a1,.str a4,.str a3,.str a2],.agg [.ii b3,.str b6,.str b4,.ii b5,.own 4031],.own 32,.bad,.bad,.bad,.bad],bl:=[(2,⟨.var,1,[[.zc]]⟩),(3,⟨.var,1,[[.own 7003]]⟩),(6,⟨.var,9,[[.ii a9,.ii a6,.ii a0,.ii a7,.ii a5,.ii a1,.str a4,.str a3,.str a2]]⟩),(14,⟨.arr,1,b2⟩),(32,⟨.lit,5,[[.ii b3,.str b6,.str b4,.ii b5,.own 4031]]⟩),(4031,⟨.arr,3,c0⟩),(7003,⟨.arr,5,R⟩)]}:St):=by
     intro dn
     induction dn with
     | zero=>
      intro dB0 dB1 dQ0 dQ1 dh0 dh1 e5 dhn
      exact absurd (show false=true from cntF_zero _ dhn 6 (by show 6 < 9;decide)) (by decide)
     | succ dn ih=>
      intro dB0 dB1 dQ0 dQ1 dh0 dh1 e5 dhn
      subst dhR
      refine dwp_next (is:=[0,1,2,3,4,5,6,7,8]) rfl ?_
      refine aq (fun h0 h1=> ?_) ?_
      ·
       cases (show dB0=false from h0)
       refine rn hA 1 ?_
       refine ow_ ?_
       exact ih rf dh1 rf (cd h0 dhn)
      refine aq (fun h0 h1=> ?_) ?_
      ·
       cases (show dB1=false from h0)
       obtain rfl:dB0=true:=h1.1
       cases dh0 rfl
       refine rn hA 1 ?_
       refine ow_ ?_
       exact ih rf rf rf (cd h0 dhn)
      refine an ?_
      refine an ?_
      refine an ?_
      refine an ?_
      refine aq (fun h0 h1=> ?_) ?_
      ·
       obtain rfl:dB1=true:=h1.1
       cases dh1 rfl;cases e5 rfl;cases dh0 rfl
       refine ops_step rfl rfl (app_own rfl rfl rfl rfl rfl rfl rfl rfl j5 (by cbv) (by cbv) (by cbv) rfl (by
        show(List.length R+List.length ([[.ii b3,.str b6,.str b4,.ii b5,.ow 3 c0]])) * _≤_
        have h1:=fm_len (boxOf xs) (numS boxP GRec.Valid xs) i
        have h2:=num_le boxP GRec.Valid xs
        show(List.length R+1) * 72≤_
        rw[hR,List.length_map];omega) (by decide) (by decide)) ?_
       refine ow_ ?_
       exact k7 dn nf (cd h0 dhn)
      refine allRdy_q rfl rfl (fun _ h1=>absurd (show false=true from h1.2.2.2.2.2.2.1) (by decide)) ?_
      refine allRdy_q rfl rfl (fun _ h1=>absurd (show false=true from h1.1) (by decide)) ?_
      exact trivial
    have H_4:∀(dn:Nat) {dB0 dB1:Bool} {dQ0 dQ1:PV},(dB0=true→dQ0=.pt 3 0 0)→(dB1=true→dQ1=.own 7003)→(dB1=true→dB0=true)→cntF [dB0,dB1,true,true,true,false,false,false,false]=dn→dwp T ⟨Real Tryz.prog,RealM Tryz.prog,RealC Tryz.prog⟩ dR dK dn [dB0,dB1,true,true,true,false,false,false,false] ({sl:=[.sl 9 b7,.bad,.pt 2 0 0,.pt 3 0 0,.bad,.ii x9,.pt 6 0 0,.bool b0,.bad,.bad,.bad,.bad,.bad,.bad,.own 14,.ii (A.rlen b2),.ii n,.bool (A.cmp .lss n (A.rlen b2)),.pt 14 (Int.toNat n) 0,.ii x9,.tup [.agg [.ii a9,.ii a6,.ii a0,.ii a7,.ii a5,.ii a1,.str a4,.str a3,.str a2],.bool b0],.sl 9 b7,.ii x9,.tup [.agg [.ii a9,.ii a6,.ii a0,.ii a7,.ii a5,.ii a1,.str a4,.str a3,.str a2],.bool b0],.agg [.ii a9,.ii a6,.ii a0,.ii a7,.ii a5,.ii a1,.str a4,.str a3,.str a2],.bool b0,.bool b0,dQ0,dQ1,.sl 9 b7,.agg [.ii a9,.ii a6,.ii a0,.ii a7,.ii a5,.ii a1,.str a4,.str a3,.str a2],.agg [.ii b3,.str b6,.str b4,.ii b5,.own 4031],.bad,.bad,.bad,.bad,.bad],bl:=[(2,⟨.var,1,[[.zc]]⟩),(3,⟨.var,1,[[.own 7003]]⟩),(6,⟨.var,9,[[.ii a9,.ii a6,.ii a0,.ii a7,.ii a5,.ii a1,.str a4,.str a3,.str a2]]⟩),(14,⟨.arr,1,b2⟩),(4031,⟨.arr,3,c0⟩),(7003,⟨.arr,5,R⟩)]}:St):=by
     intro dn
     induction dn with
     | zero=>
      intro dB0 dB1 dQ0 dQ1 dh0 dh1 e5 dhn
      exact absurd (show false=true from cntF_zero _ dhn 5 (by show 5 < 9;decide)) (by decide)
     | succ dn ih=>
      intro dB0 dB1 dQ0 dQ1 dh0 dh1 e5 dhn
      subst dhR
      refine dwp_next (is:=[0,1,2,3,4,5,6,7,8]) rfl ?_
      refine aq (fun h0 h1=> ?_) ?_
      ·
       cases (show dB0=false from h0)
       refine rn hA 1 ?_
       refine ow_ ?_
       exact ih rf dh1 rf (cd h0 dhn)
      refine aq (fun h0 h1=> ?_) ?_
      ·
       cases (show dB1=false from h0)
       obtain rfl:dB0=true:=h1.1
       cases dh0 rfl
       refine rn hA 1 ?_
       refine ow_ ?_
       exact ih rf rf rf (cd h0 dhn)
      refine an ?_
      refine an ?_
      refine an ?_
      refine aq (fun h0 h1=> ?_) ?_
      ·
       refine rn hA 1 ?_
       refine ops_done (dwp_to [.up 7003,.up 4031,.up 32,.up 14,.up 6,.up 3,.up 2] (by cbv) rfl ?_)
       exact l2 dn dh0 dh1 e5 (cd h0 dhn)
      refine allRdy_q rfl rfl (fun _ h1=>absurd (show false=true from h1.2.1) (by decide)) ?_
      refine allRdy_q rfl rfl (fun _ h1=>absurd (show false=true from h1.2.2.2.2.2.1) (by decide)) ?_
      refine allRdy_q rfl rfl (fun _ h1=>absurd (show false=true from h1.1) (by decide)) ?_
      exact trivial
    have H_:∀(dn:Nat) {dB0 dB1 dB2 dB3:Bool} {dQ0 dQ1 dQ2 dQ3:PV},(dB0=true→dQ0=.pt 3 0 0)→(dB1=true→dQ1=.own 7003)→(dB2=true→dQ2=.sl 9 b7)→(dB3=true→dQ3=.agg [.ii a9,.ii a6,.ii a0,.ii a7,.ii a5,.ii a1,.str a4,.str a3,.str a2])→(dB1=true→dB0=true)→cntF [dB0,dB1,dB2,dB3,false,false,false,false,false]=dn→dwp T ⟨Real Tryz.prog,RealM Tryz.prog,RealC Tryz.prog⟩ dR dK dn [dB0,dB1,dB2,dB3,false,false,false,false,false] ({sl:=[.sl 9 b7,.bad,.pt 2 0 0,.pt 3 0 0,.bad,.ii x9,.pt 6 0 0,.bool b0,.bad,.bad,.bad,.bad,.bad,.bad,.own 14,.ii (A.rlen b2),.ii n,.bool (A.cmp .lss n (A.rlen b2)),.pt 14 (Int.toNat n) 0,.ii x9,.tup [.agg [.ii a9,.ii a6,.ii a0,.ii a7,.ii a5,.ii a1,.str a4,.str a3,.str a2],.bool b0],.sl 9 b7,.ii x9,.tup [.agg [.ii a9,.ii a6,.ii a0,.ii a7,.ii a5,.ii a1,.str a4,.str a3,.str a2],.bool b0],.agg [.ii a9,.ii a6,.ii a0,.ii a7,.ii a5,.ii a1,.str a4,.str a3,.str a2],.bool b0,.bool b0,dQ0,dQ1,dQ2,dQ3,.bad,.bad,.bad,.bad,.bad,.bad],bl:=[(2,⟨.var,1,[[.zc]]⟩),(3,⟨.var,1,[[.own 7003]]⟩),(6,⟨.var,9,[[.ii a9,.ii a6,.ii a0,.ii a7,.ii a5,.ii a1,.str a4,.str a3,.str a2]]⟩),(14,⟨.arr,1,b2⟩),(7003,⟨.arr,5,R⟩)]}:St):=by
     intro dn
     induction dn with
     | zero=>
      intro dB0 dB1 dB2 dB3 dQ0 dQ1 dQ2 dQ3 dh0 dh1 dh2 dh3 e5 dhn
      exact absurd (show false=true from cntF_zero _ dhn 4 (by show 4 < 9;decide)) (by decide)
     | succ dn ih=>
      intro dB0 dB1 dB2 dB3 dQ0 dQ1 dQ2 dQ3 dh0 dh1 dh2 dh3 e5 dhn
      subst dhR
      refine dwp_next (is:=[0,1,2,3,4,5,6,7,8]) rfl ?_
      refine aq (fun h0 h1=> ?_) ?_
      ·
       cases (show dB0=false from h0)
       refine rn hA 1 ?_
       refine ow_ ?_
       exact ih rf dh1 dh2 dh3 rf (cd h0 dhn)
      refine aq (fun h0 h1=> ?_) ?_
      ·
       cases (show dB1=false from h0)
       obtain rfl:dB0=true:=h1.1
       cases dh0 rfl
       refine rn hA 1 ?_
       refine ow_ ?_
       exact ih rf rf dh2 dh3 rf (cd h0 dhn)
      refine aq (fun h0 h1=> ?_) ?_
      ·
       cases (show dB2=false from h0)
       refine rn hA 1 ?_
       refine ow_ ?_
       exact ih dh0 dh1 rf dh3 e5 (cd h0 dhn)
      refine aq (fun h0 h1=> ?_) ?_
      ·
       cases (show dB3=false from h0)
       refine rn hA 1 ?_
       refine ow_ ?_
       exact ih dh0 dh1 dh2 rf e5 (cd h0 dhn)
      refine aq (fun h0 h1=> ?_) ?_
      ·
       obtain rfl:dB2=true:=h1.1
       cases dh2 rfl
       obtain rfl:dB3=true:=h1.2.1
       cases dh3 rfl
       refine cvw l6 (.inr rfl) ?_
       refine ops_done (dwp_to [.up 7003,.up 4031,.up 14,.up 6,.up 3,.up 2] (by cbv) rfl ?_)
       exact H_4 dn dh0 dh1 e5 (cd h0 dhn)
      refine allRdy_q rfl rfl (fun _ h1=>absurd (show false=true from h1.1) (by decide)) ?_
      refine allRdy_q rfl rfl (fun _ h1=>absurd (show false=true from h1.2.1) (by decide)) ?_
      refine allRdy_q rfl rfl (fun _ h1=>absurd (show false=true from h1.2.2.2.2.1) (by decide)) ?_
      refine allRdy_q rfl rfl (fun _ h1=>absurd (show false=true from h1.1) (by decide)) ?_
      exact trivial
    exact dwp_to [.up 7003,.up 14,.up 6,.up 3,.up 2] (by cbv) rfl (@H_ 9 false false false false (.bad) (.bad) (.bad) (.bad) nf nf nf nf nf rfl)
   refine gy hA 2 ?_
   refine⟨(S39_1 b7 (A.rlen b2) (A.num .add .i64 n 1) b2 r16),List.length (numS boxP GRec.Valid xs) - (i+1),?_,by cbv,i+1,(A.num .add .i64 n 1),r16,rfl,?_,rfl⟩
   ·
    omega
   have hM:boxOf xs x9=some (⟨b3,b6,b4,b5,(boxS xs (⟨a9,⟨a6,a0,a7,a5,a1,a4,a3,a2⟩⟩:GItem)).Mails⟩:GBox):=by
    unfold boxOf
    rw[if_pos (by rw[← i8,c13])]
    simp only[k3,j1,j3,i6,i0,i9,i4,i1,i2,i5,i3,i8,j2,j7,k0,j8,f3]
   refine⟨by rw[add_i64 hA (by omega) (by omega)];omega,by omega,?_⟩
   rw[fm_at j9,hM]
   exact j4
  refine gk (gy hA 2 ?_)
  refine⟨(S39_1 b7 (A.rlen b2) (A.num .add .i64 n 1) b2 R),List.length (numS boxP GRec.Valid xs) - (i+1),?_,by cbv,i+1,(A.num .add .i64 n 1),R,rfl,?_,rfl⟩
  ·
   omega
  have hM:boxOf xs x9=none:=by
   unfold boxOf
   rw[if_neg (by rw[← i8,c13];decide)]
  refine⟨by rw[add_i64 hA (by omega) (by omega)];omega,by omega,?_⟩
  rw[fm_at j9,hM,hR]
  simp
 have ec8:(A.rlen b2)≤n:=lss_f hA c8
 refine go_exit ⟨fun _=> ?_,fun h=>absurd rfl h⟩
 refine gx hA 2 ?_
 refine rt (gt ?_)
 show _=(PV.agg [.ow 5 R])
 have hle:List.length (numS boxP GRec.Valid xs)≤i:=by omega
 have hS:stateS xs=⟨boxesS xs⟩:=by rw[stateS,if_pos hok]
 rw[List.take_of_length_le hle] at hR
 rw[hS]
 simp only[hR]
 rfl
end Go.Av
